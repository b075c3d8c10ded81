/- Parts of a proof. -/
import Derived.Test.YtjopcamkclndlaaGreatH007
import Derived.Deep.RegionWith
set_option linter.unusedVariables false
set_option linter.unusedSimpArgs false
set_option maxRecDepth 100000
set_option maxHeartbeats 8000000
namespace Go.Proofs.YtjopcamkclndlaaGreat.Tc
open List Go.RowKit Base
def str (l:List UInt8):ByteArray:=⟨l.toArray⟩
def j4 (n:Nat):UInt8:=UInt8.ofNat n
def du (n:Nat):Nat :=
 if n<128 then 1 else if n<16384 then 2 else if n<2097152 then 3 else if n<268435456 then 4 else if n<34359738368 then 5
 else if n<4398046511104 then 6 else if n<562949953421312 then 7 else if n<72057594037927936 then 8 else 9
theorem CQ (n:Nat):1<=du n/\du n<=9:=by unfold du;repeat (first | omega | split)
def lead (s:Nat):Nat:=256-2 ^ (9-s)
def be:Nat->Nat->List UInt8
 | 0,_=>[]
 | t+1,n=>j4 (n / 256 ^ t)::be t n
theorem MJ (t n:Nat):(be t n).length=t:=by
 induction t with
 | zero=>rfl
 | succ t ih=>simp [be,ih]
theorem a7Y (b:UInt8) (n:Nat) (h:n % 256=b.toNat):j4 n=b:=by
 unfold j4;apply UInt8.toNat_inj.1;rw [UInt8.toNat_ofNat'];omega
def vB (n:Nat):List UInt8:=j4 (lead (du n)+n / 256 ^ (du n-1))::be (du n-1) n
theorem a74 (n:Nat):(vB n).length=du n:=by
 unfold vB;rw [length_cons,MJ];have:=CQ n;omega
theorem a9F {n:Nat} (h:n<128):du n<=1:=by unfold du;repeat (first | omega | split)
theorem a6t {n:Nat} (h:¬n<128):2<=du n:=by unfold du;repeat (first | omega | split)
theorem abb {n:Nat} (h:n<16384):du n<=2:=by unfold du;repeat (first | omega | split)
theorem abK {n:Nat} (h:¬n<16384):3<=du n:=by unfold du;repeat (first | omega | split)
theorem a6O {n:Nat} (h:n<2097152):du n<=3:=by unfold du;repeat (first | omega | split)
theorem a5n {n:Nat} (h:¬n<2097152):4<=du n:=by unfold du;repeat (first | omega | split)
theorem a8C {n:Nat} (h:n<268435456):du n<=4:=by unfold du;repeat (first | omega | split)
theorem aa9 {n:Nat} (h:¬n<268435456):5<=du n:=by unfold du;repeat (first | omega | split)
theorem a6g {n:Nat} (h:n<34359738368):du n<=5:=by unfold du;repeat (first | omega | split)
theorem a5q {n:Nat} (h:¬n<34359738368):6<=du n:=by unfold du;repeat (first | omega | split)
theorem a7I {n:Nat} (h:n<4398046511104):du n<=6:=by unfold du;repeat (first | omega | split)
theorem a9Q {n:Nat} (h:¬n<4398046511104):7<=du n:=by unfold du;repeat (first | omega | split)
theorem a8w {n:Nat} (h:n<562949953421312):du n<=7:=by unfold du;repeat (first | omega | split)
theorem a9f {n:Nat} (h:¬n<562949953421312):8<=du n:=by unfold du;repeat (first | omega | split)
theorem a5Y {n:Nat} (h:n<72057594037927936):du n<=8:=by unfold du;repeat (first | omega | split)
theorem aaE {n:Nat} (h:¬n<72057594037927936):9<=du n:=by unfold du;repeat (first | omega | split)
theorem a9p (n:Nat) (w:World) (hn:n<18446744073709551616) :
 Calls Tryz.prog 158 #[.int .u64 n] w fun e w'=>e = .returned (.int .i64 (du n:Nat))/\w=w':=by
 have Hn:=kp hn;clear hn;go_enter Tryz.func158,Tryz.ntmps158;go_wp2_with fail
 go_loop [3] (fun v=>∃k:Nat,1<=k/\k<=du n/\v = .int .i64 (k:Nat)) (fun v=>9-(intOf v).toNat)
 case atStart=>exact ⟨1,ah _,(CQ n).1,rfl⟩
 case round =>
  obtain ⟨k,h1,h2,rfl⟩:=hrel;have h9:=(CQ n).2;have hk:k=1\/k=2\/k=3\/k=4\/k=5\/k=6\/k=7\/k=8\/k=9:=by omega
  have H2:=kp h2;clear h1 h2 h9;rcases hk with rfl | rfl | rfl | rfl | rfl | rfl | rfl | rfl | rfl
  .by_cases ae:n<128
   .have hs:=kp (show du n=1 by have:=a9F ae;have:=H2.o;omega);have hq:((n:Int) / 128 == 0)=true:=by simp;omega
    clear ae;go_wp2_with fail;go_ret;rw [hs.out];exact ⟨rfl,rfl⟩
   .have hs:=kp (a6t ae);have hq:((n:Int) / 128 == 0)=false:=by simp;omega
    clear ae;go_wp2_with fail
    go_round
    case rel=>exact ⟨2,by omega,hs.out,rfl⟩
    case measure=>simp [intOf]
  .by_cases ae:n<16384
   .have hs:=kp (show du n=2 by have:=abb ae;have:=H2.o;omega);have hq:((n:Int) / 16384 == 0)=true:=by simp;omega
    clear ae;go_wp2_with fail;go_ret;rw [hs.out];exact ⟨rfl,rfl⟩
   .have hs:=kp (abK ae);have hq:((n:Int) / 16384 == 0)=false:=by simp;omega
    clear ae;go_wp2_with fail
    go_round
    case rel=>exact ⟨3,by omega,hs.out,rfl⟩
    case measure=>simp [intOf]
  .by_cases ae:n<2097152
   .have hs:=kp (show du n=3 by have:=a6O ae;have:=H2.o;omega);have hq:((n:Int) / 2097152 == 0)=true:=by simp;omega
    clear ae;go_wp2_with fail;go_ret;rw [hs.out];exact ⟨rfl,rfl⟩
   .have hs:=kp (a5n ae);have hq:((n:Int) / 2097152 == 0)=false:=by simp;omega
    clear ae;go_wp2_with fail
    go_round
    case rel=>exact ⟨4,by omega,hs.out,rfl⟩
    case measure=>simp [intOf]
  .by_cases ae:n<268435456
   .have hs:=kp (show du n=4 by have:=a8C ae;have:=H2.o;omega);have hq:((n:Int) / 268435456 == 0)=true:=by simp;omega
    clear ae;go_wp2_with fail;go_ret;rw [hs.out];exact ⟨rfl,rfl⟩
   .have hs:=kp (aa9 ae);have hq:((n:Int) / 268435456 == 0)=false:=by simp;omega
    clear ae;go_wp2_with fail
    go_round
    case rel=>exact ⟨5,by omega,hs.out,rfl⟩
    case measure=>simp [intOf]
  .by_cases ae:n<34359738368
   .have hs:=kp (show du n=5 by have:=a6g ae;have:=H2.o;omega);have hq:((n:Int) / 34359738368 == 0)=true:=by simp;omega
    clear ae;go_wp2_with fail;go_ret;rw [hs.out];exact ⟨rfl,rfl⟩
   .have hs:=kp (a5q ae);have hq:((n:Int) / 34359738368 == 0)=false:=by simp;omega
    clear ae;go_wp2_with fail
    go_round
    case rel=>exact ⟨6,by omega,hs.out,rfl⟩
    case measure=>simp [intOf]
  .by_cases ae:n<4398046511104
   .have hs:=kp (show du n=6 by have:=a7I ae;have:=H2.o;omega);have hq:((n:Int) / 4398046511104 == 0)=true:=by simp;omega
    clear ae;go_wp2_with fail;go_ret;rw [hs.out];exact ⟨rfl,rfl⟩
   .have hs:=kp (a9Q ae);have hq:((n:Int) / 4398046511104 == 0)=false:=by simp;omega
    clear ae;go_wp2_with fail
    go_round
    case rel=>exact ⟨7,by omega,hs.out,rfl⟩
    case measure=>simp [intOf]
  .by_cases ae:n<562949953421312
   .have hs:=kp (show du n=7 by have:=a8w ae;have:=H2.o;omega);have hq:((n:Int) / 562949953421312 == 0)=true:=by simp;omega
    clear ae;go_wp2_with fail;go_ret;rw [hs.out];exact ⟨rfl,rfl⟩
   .have hs:=kp (a9f ae);have hq:((n:Int) / 562949953421312 == 0)=false:=by simp;omega
    clear ae;go_wp2_with fail
    go_round
    case rel=>exact ⟨8,by omega,hs.out,rfl⟩
    case measure=>simp [intOf]
  .by_cases ae:n<72057594037927936
   .have hs:=kp (show du n=8 by have:=a5Y ae;have:=H2.o;omega);have hq:((n:Int) / 72057594037927936 == 0)=true:=by simp;omega
    clear ae;go_wp2_with fail;go_ret;rw [hs.out];exact ⟨rfl,rfl⟩
   .have hs:=kp (aaE ae);have hq:((n:Int) / 72057594037927936 == 0)=false:=by simp;omega
    clear ae;go_wp2_with fail
    go_round
    case rel=>exact ⟨9,by omega,hs.out,rfl⟩
    case measure=>simp [intOf]
  .have hs:=kp (show du n=9 by have:=(CQ n).2;have:=H2.o;omega);go_wp2_with fail;go_ret;rw [hs.out];exact ⟨rfl,rfl⟩
theorem a6x (s:Nat) (w:World) (h1:1<=s) (h9:s<=9) :
 Calls Tryz.prog 159 #[.int .i64 s] w fun e w'=>e = .returned (.int .u8 (lead s:Nat))/\w=w':=by
 have hk:s=1\/s=2\/s=3\/s=4\/s=5\/s=6\/s=7\/s=8\/s=9:=by omega
 clear h1 h9;rcases hk with rfl | rfl | rfl | rfl | rfl | rfl | rfl | rfl | rfl
 all_goals
  go_enter Tryz.func159,Tryz.ntmps159;go_wp2_with fail;go_ret;exact ⟨rfl,rfl⟩
abbrev vE (l:List UInt8):AV:=(l.map fun b=>Value.int .u8 (b.toNat:Int)).toArray
def nine (s n t:Nat):List UInt8:=replicate (s-t) 0++be t n++replicate (9-s) 0
theorem a8l (s n:Nat) (h:s<=9):nine s n 0=replicate 9 0:=by
 unfold nine;rw [be,append_nil,replicate_append_replicate]
 congr 1
 omega
theorem a6p (s n t:Nat) (h:t<s):(nine s n t).set (s-1-t) (j4 (n / 256 ^ t))=nine s n (t+1):=by
 unfold nine;have e:s-t=(s-(t+1))+1:=by omega
 rw [e,replicate_succ',append_assoc,append_assoc,append_assoc];rw [show s-1-t=(replicate (s-(t+1)) (0:UInt8)).length by simp;omega];rw [set_append_right _ _ (ah _),Nat.sub_self];simp [be]
theorem Yi (s n t:Nat) (h:t<=s) (h9:s<=9):(nine s n t).length=9:=by
 unfold nine;simp [MJ];omega
theorem ZO (l:List UInt8) (i:Nat) (b:UInt8):(vE l).setIfInBounds i (.int .u8 (b.toNat:Int))=vE (l.set i b):=by
 unfold vE;rw [setIfInBounds_toArray,map_set]
theorem aaT (n s:Nat) (hs:s=du n) (h:n<18446744073709551616):∃b r,nine s n s=b::r/\b.toNat=n / 256 ^ (s-1) % 256/\(s<9->(j4 (lead s+b.toNat))::r.take (s-1)=vB n)/\(s=9->(j4 255)::r.take (s-1)=vB n)/\(s<9->b.toNat<2 ^ (8-s)):=by
 have hb:=CQ n;obtain ⟨t,rfl⟩:∃t,s=t+1:=⟨s-1,by omega⟩
 refine ⟨j4 (n / 256 ^ t),be t n++replicate (9-(t+1)) 0,?_,?_,?_,?_,?_⟩
 .unfold nine;rw [Nat.sub_self,be];rfl
 .unfold j4;rw [UInt8.toNat_ofNat'];rfl
 all_goals (try rw [Nat.add_sub_cancel])
 .intro h9;have e:(j4 (n / 256 ^ t)).toNat=n / 256 ^ t % 256:=by unfold j4;rw [UInt8.toNat_ofNat']
  rw [take_left' (MJ t n)];unfold vB;rw [<-hs,Nat.add_sub_cancel,e]
  congr 1
  apply a7Y;unfold j4;rw [UInt8.toNat_ofNat'];omega
 .intro h9;rw [take_left' (MJ t n)];unfold vB;rw [<-hs,Nat.add_sub_cancel]
  congr 1
  have:t=8:=by omega
  subst this;rw [show n / 256 ^ 8=0 from Nat.div_eq_of_lt h];decide
 .intro h9;have e:(j4 (n / 256 ^ t)).toNat=n / 256 ^ t % 256:=by unfold j4;rw [UInt8.toNat_ofNat']
  rw [e];have hk:t=0\/t=1\/t=2\/t=3\/t=4\/t=5\/t=6\/t=7:=by omega
  unfold du at hs;rcases hk with rfl | rfl | rfl | rfl | rfl | rfl | rfl | rfl<;>simp at hs ⊢<;>(repeat (first | omega | split at hs))
theorem a6i (s b:Nat) (h1:1<=s) (h9:s<9) (hb:b<2 ^ (8-s)):bits .or .u8 (b:Int) ((lead s:Nat):Int)=((j4 (lead s+b)).toNat:Int):=by
 have key:∀s:Fin 9,∀b:Fin 128,1<=s.val->b.val<2 ^ (8-s.val)->bits .or .u8 (b.val:Int) ((lead s.val:Nat):Int)=((j4 (lead s.val+b.val)).toNat:Int):=by decide +kernel
 have h2:b<128:=by
  have:2 ^ (8-s)<=2 ^ 7:=Nat.pow_le_pow_right (by omega) (by omega);omega
 exact key ⟨s,h9⟩ ⟨b,h2⟩ h1 hb
theorem a0K {w:World} {g:Nat} {t:TypeId} (l:List UInt8) (s c:Nat) (hb:aa w g t (vE l)) (hs:s<=l.length) :
 (convert 114 9 (.slice (some ⟨g,0,none⟩) s c)).run Tryz.prog w = .ok (.string (str (l.take s))) w:=by
 have h:=run_convert_bytes_back (P:=Tryz.prog) w 114 9 5 ⟨g,0,none⟩ c (l.take s) Tryz.underlying114 Tryz.underlying5 Tryz.underlying9 ?_
 .rw [length_take,Nat.min_eq_left hs] at h;exact h
 .intro j hj;rw [length_take] at hj;rw [xO,Nat.zero_add,hb.cell];simp [vE,gE (show j<l.length by omega)]
theorem a8g (g t:Nat) (W:World) (h1:1<=t) (h9:t<=9):(Instr.sliceAt 274 (.pointer (some ⟨g,0,none⟩)) none (some (.int .i64 (t:Int))) none).run Tryz.prog W = .ok (.slice (some ⟨g,0,none⟩) t 9) W:=by
 have hk:t=1\/t=2\/t=3\/t=4\/t=5\/t=6\/t=7\/t=8\/t=9:=by omega
 rcases hk with rfl | rfl | rfl | rfl | rfl | rfl | rfl | rfl | rfl
 all_goals (simp [go_sem,Tryz.underlying274])
theorem aah (n:Nat) (w:World) (hn:n<18446744073709551616) :
 Calls Tryz.prog 135 #[.int .u64 n] w fun e w'=>e = .returned (.string (str (vB n)))/\Below w.heap.size w w':=by
 have Ws:=kp (fun w=>a9p n w hn);have xW:=CQ n;obtain ⟨b0,r0,KU,yh,hf3,hf4,hf5⟩:=aaT n (du n) rfl hn;have aX:=Yi (du n) n (du n) (ah _) (by omega);have OL:=kp KU;have T9:=kp hf3;have Hf4:=kp hf4;have Hf5:=kp hf5;have lz:=kp aX;have HF:=kp (fun w=>a6x (du n) w xW.1 xW.2);have oY:=kp (a8l (du n) n xW.2);have oH:=kp (fun t h=>a6p (du n) n t h);have hdv:=kp (show ∀t,n / 256 ^ t<18446744073709551616 from fun t=>Nat.lt_of_le_of_lt (Nat.div_le_self _ _) hn);have aeb:=kp (show ∀t,n / 256 ^ (t+1)=n / 256 ^ t / 256 from fun t=>by rw [Nat.pow_succ,Nat.div_div_eq_div_mul]);clear KU yh hf3 hf4 hf5 aX hn;generalize hS:du n=S at *;clear hS;go_enter Tryz.func135,Tryz.ntmps135;go_wp2_with fail;refine (Ws.o _).mono ?_;rintro e w' ⟨rfl,rfl⟩;go_wp2_with fail
 go_loopw [0,5] (fun v0 v5 wr=>∃t:Nat,(t<S/\(∃j:Nat,v5 = .int .i64 (j:Nat)/\j+t+1=S)\/t=S/\v5 = .int .i64 (-1))/\v0 = .int .u64 (n / 256 ^ t:Nat)/\aa wr w.heap.size 274 (vE (nine S n t))/\Below w.heap.size w wr) (fun _ v5 _=>(intOf v5+1).toNat)
 case atStart =>
  refine ⟨0,.inl ⟨by omega,S-1,by first | rfl | exact congrArg (Value.int .i64) (by omega),by omega⟩,by simp,?_,(by repeat (first | exact aq _ _ | assumption | refine Below.drew ?_ | (refine Below.alloc ?_ (by simp<;>omega) _) | (refine Below.setCell ?_ (by simp<;>omega) _)))⟩;rw [oY.out];exact aa.lay rfl
 case round =>
  obtain ⟨t,Ii,rfl,kM,aC⟩:=hrel;have BR:=kp kM;have dv:=aC.size;have hdt:=hdv.out t;have en:=kp (aeb.out t);have Lx:w.heap.size<wr.heap.size:=kM.lt;rcases Ii with ⟨ht,j,rfl,hj⟩ | ⟨rfl,rfl⟩
  .have nZ:wr.cell? ⟨w.heap.size,j,none⟩=some (.int .u8 (((nine S n t).getD j 0).toNat:Int)):=by
    rw [kM.cell];have hl:=Yi S n t (by omega) (by omega);simp [vE,getD_eq_getElem?_getD,gE (show j<(nine S n t).length by omega)]
   have tZ:=kM.free j
   have aec:=kp (show aa (wr.setCell ⟨w.heap.size,j,none⟩ (.int .u8 (((n / 256 ^ t:Nat):Int) % 256))) w.heap.size 274 (vE (nine S n (t+1))) by
    have h:=kM.set j (.int .u8 ((j4 (n / 256 ^ t)).toNat:Int));rw [ZO,show j=S-1-t by omega,oH.out t ht] at h;rw [show j=S-1-t by omega];have e:((j4 (n / 256 ^ t)).toNat:Int)=((n / 256 ^ t:Nat):Int) % 256:=by unfold j4;rw [UInt8.toNat_ofNat'];omega
    rw [e] at h
    exact h)
   have Hj:=kp hj;have hj9:j<9:=by omega
   clear kM hj;generalize n / 256 ^ t=m at *;go_wp2_with fail;have hjj:=Hj.o;refine ⟨⟨t+1,?_,?_,aec.out,aC.setCell (ah _) _⟩,?_⟩
   .by_cases h0:j=0
    .exact .inr ⟨by omega,congrArg (Value.int .i64) (by omega)⟩
    .exact .inl ⟨by omega,j-1,congrArg (Value.int .i64) (by omega),by omega⟩
   .rw [en.o];exact congrArg (Value.int .u64) (by omega)
   .show ((j:Int)-1+1).toNat<((j:Int)+1).toNat;omega
  .have ax:=kM;rw [OL.o] at ax;have O7:wr.cell? ⟨w.heap.size,0,none⟩=some (.int .u8 (b0.toNat:Int)):=by rw [ax.cell];rfl
   have tZ:=kM.free 0;have nw:r0.length=8:=by have:=lz.o;rw [OL.o] at this;simpa using this
   have wI:=kp nw
   have a4m:=kp (fun (x:UInt8)=>show aa (wr.setCell ⟨w.heap.size,0,none⟩ (.int .u8 (x.toNat:Int))) w.heap.size 274 (vE (x::r0)) by
    have h:=ax.set 0 (.int .u8 (x.toNat:Int));rw [ZO] at h
    exact h)
   clear kM ax nw en hdt BR;generalize n / 256 ^ t=m at *;by_cases h9:t<9
   .have K6:=a6i t b0.toNat xW.1 h9 (Hf5.o h9);have bN:=kp (T9.o h9);have h9I:(t:Int)<9:=by omega
    have Hb:=kp (a4m.out (j4 (lead t+b0.toNat)));have au:=b0.toNat_lt;have hx:=(j4 (lead t+b0.toNat)).toNat_lt;have Iq:=kp (fun W (hW:aa W w.heap.size 274 (vE (j4 (lead t+b0.toNat)::r0)))=>a0K (j4 (lead t+b0.toNat)::r0) t 9 hW (by rw [length_cons,wI.o];omega))
    have yw:=kp (show (j4 (lead t+b0.toNat)::r0).take t=vB n by
     rw [<-bN.o,show t=(t-1)+1 by omega,take_succ_cons,Nat.add_sub_cancel])
    generalize j4 (lead t+b0.toNat)=B at *;generalize b0.toNat=y0 at *;generalize lead t=L at *;generalize B.toNat=yB at *;go_wp2_with fail
    go_region_with ((go_at_call 159;refine (HF.o _).mono ?_;rintro e w' ⟨rfl,rfl⟩))
    all_goals
     have x8:=Iq.o _ (show aa ((wr.setCell ⟨w.heap.size,0,none⟩ (.int .u8 (yB:Int))).drew) w.heap.size 274 _ from Hb.o);have qb:=a8g w.heap.size t ((wr.setCell ⟨w.heap.size,0,none⟩ (.int .u8 (yB:Int))).drew) xW.1 xW.2;go_wp2_with fail;go_ret;exact ⟨by rw [yw.out];rfl,(aC.setCell (ah _) _).drew⟩
   .have ht9:t=9:=by omega
    subst ht9;have bN:=kp (Hf4.o rfl);have Hb:=kp (a4m.out (j4 255));have Iq:=kp (fun W (hW:aa W w.heap.size 274 (vE (j4 255::r0)))=>a0K (j4 255::r0) 9 9 hW (by rw [length_cons,wI.o];omega))
    have yw:=kp (show (j4 255::r0).take 9=vB n by
     rw [<-bN.o,take_succ_cons])
    have x8:=Iq.o _ (show aa (wr.setCell ⟨w.heap.size,0,none⟩ (.int .u8 255)) w.heap.size 274 _ from Hb.o);have hF9:∀w,Calls Tryz.prog 159 #[.int .i64 9] w fun e w'=>e = .returned (.int .u8 255)/\w=w':=HF.o
    have KH:=kp hF9;clear hF9 h9;go_wp2_with fail;refine (KH.o _).mono ?_;rintro e w' ⟨rfl,rfl⟩;go_wp2_with fail;go_ret;exact ⟨by first | (rw [yw.out];rfl) | (rw [bN.o];rfl),aC.setCell (ah _) _⟩
def js (n:Nat):ByteArray:=str (vB n)
theorem vS (n:Nat):(js n).size<=9:=by
 have:=a74 n;have h:=(CQ n).2;show (vB n).toArray.size<=9;rw [size_toArray];omega
theorem abL (o:BinOp) (a b:Int):0<=bits o .u64 a b/\bits o .u64 a b<18446744073709551616:=by
 have h:=wf_bits o .u64 a b;simp [Lit.wf,IntKind.min,IntKind.max,IntKind.signed,IntKind.bits] at h;omega
def yZ (z:Int):Int:=if z<0 then bits .or .u64 (IntKind.u64.wrap (IntKind.u64.wrap (bits .xor .i64 (-1) z)*2)) 1 else IntKind.u64.wrap (IntKind.u64.wrap z*2)
theorem a0F (z:Int):0<=yZ z/\yZ z<18446744073709551616:=by
 unfold yZ;split
 .exact abL _ _ _
 .have h:=wf_wrap .u64 (IntKind.u64.wrap z*2);simp [Lit.wf,IntKind.min,IntKind.max,IntKind.signed,IntKind.bits] at h;omega
def mV (z:Int):ByteArray:=js (yZ z).toNat
def IC (s:ByteArray):ByteArray:=js s.size++s
theorem xz (z:Int):(mV z).size<=9:=vS _
def uW (s:ByteArray) (w:World) (e:Ending) (w':World):Prop:=e = .returned (.string s)/\Below w.heap.size w w'
theorem a5K (z:Int) (w:World):Calls Tryz.prog 190 #[.int .i64 z] w fun e w'=>e = .returned (.int .u64 (yZ z))/\w=w':=by
 unfold yZ;by_cases hz:z<0
 .rw [if_pos hz];go_enter Tryz.func190,Tryz.ntmps190;go_wp2_with fail;go_ret;exact ⟨rfl,rfl⟩
 .rw [if_neg hz];go_enter Tryz.func190,Tryz.ntmps190;go_wp2_with fail;go_ret;exact ⟨rfl,rfl⟩
theorem Pv (n:Nat) (w:World) (hn:n<18446744073709551616):Calls Tryz.prog 135 #[.int .u64 n] w (uW (js n) w):=aah n w hn
theorem a7T (z:Int) (w:World):Calls Tryz.prog 181 #[.int .i64 z] w (uW (mV z) w):=by
 have HF:=kp (a5K z w);have HP:=kp (Pv (yZ z).toNat w (by have:=a0F z;omega));have hz:((yZ z).toNat:Int)=yZ z:=by have:=a0F z;omega
 unfold mV;rw [hz] at HP;go_enter Tryz.func181,Tryz.ntmps181;go_wp2_with fail;refine HF.o.mono ?_;rintro e w' ⟨rfl,rfl⟩;go_wp2_with fail;refine HP.o.mono ?_;rintro e w' ⟨rfl,hb⟩;go_wp2_with fail;go_ret;exact ⟨rfl,hb⟩
theorem a5z (z:Int) (w:World):Calls Tryz.prog 160 #[.int .i64 z] w (uW (mV z) w):=by
 have HF:=kp (a7T z w);go_enter Tryz.func160,Tryz.ntmps160;go_wp2_with fail;refine HF.o.mono ?_;rintro e w' ⟨rfl,hb⟩;go_wp2_with fail;go_ret;exact ⟨rfl,hb⟩
theorem Qv (z:Int) (w:World) (h:z<9223372036854775808):Calls Tryz.prog 97 #[.int .i64 z] w (uW (js z.toNat) w):=by
 by_cases hz:z<0
 .have e:z.toNat=0:=by omega
  rw [e];have HP:=kp (show Calls Tryz.prog 135 #[.int .u64 0] w (uW (js 0) w) from Pv 0 w (by decide));have q1:¬0<=z:=by omega
  clear e;go_enter Tryz.func97,Tryz.ntmps97;go_wp2_with fail;refine HP.o.mono ?_;rintro e w' ⟨rfl,hb⟩;go_wp2_with fail;go_ret;exact ⟨rfl,hb⟩
 .obtain ⟨k,rfl⟩:∃k:Nat,z=(k:Nat):=⟨z.toNat,by omega⟩
  rw [show ((k:Int)).toNat=k by omega];have HP:=kp (Pv k w (by omega));clear hz;go_enter Tryz.func97,Tryz.ntmps97;go_wp2_with fail;refine HP.o.mono ?_;rintro e w' ⟨rfl,hb⟩;go_wp2_with fail;go_ret;exact ⟨rfl,hb⟩
theorem a9D (s:ByteArray) (w:World) (h:s.size<=4611686018427387904):Calls Tryz.prog 99 #[.string s] w (uW (IC s) w):=by
 have HF:=kp (show Calls Tryz.prog 97 #[.int .i64 s.size] w (uW (js s.size) w) from Qv (s.size:Nat) w (by omega));unfold IC;have hc:¬9223372036854775807<(js s.size).size+s.size:=by have:=vS s.size;omega
 go_enter Tryz.func99,Tryz.ntmps99;go_wp2_with fail;refine HF.o.mono ?_;rintro e w' ⟨rfl,hb⟩;go_wp2_with fail;go_ret;exact ⟨rfl,hb⟩
def FB (a:Ag) (k:Nat) (o:ByteArray):ByteArray:=if 1<a.c then o++mV (ps a k)++(mV (pn a k)++mV (px a k)) else o++mV (ps a k)
def rB (a:Ag):Nat->ByteArray
 | 0=>mV a.c
 | k+1=>FB a k (rB a k)
theorem a16 (a:Ag) (k:Nat):(rB a k).size<=9+27*k:=by
 induction k with
 | zero=>exact xz _
 | succ k ih =>
  have h1:=xz (ps a k);have h2:=xz (pn a k);have h3:=xz (px a k);unfold rB FB;split
  .rw [ByteArray.size_append,ByteArray.size_append,ByteArray.size_append];omega
  .rw [ByteArray.size_append];omega
theorem aav (g m:Nat) (W:World) (h1:1<=m) (h3:m<=3):(Instr.sliceAt 52 (.pointer (some ⟨g,1,none⟩)) none (some (.int .i64 (m:Nat))) none).run Tryz.prog W = .ok (.slice (some ⟨g,1,none⟩) m 3) W:=by
 have hk:m=1\/m=2\/m=3:=by omega
 rcases hk with rfl | rfl | rfl<;>simp [go_sem,Tryz.underlying52]
theorem a98 (m:Nat) (a:Ag) (w:World) (dg:1<=m) (hm:m<=3) (ho:lP m a) :
 Calls Tryz.prog 136 #[.int .i64 (m:Nat),.agg (bj a)] w fun e w'=>e = .returned (.tuple #[.string (rB a m),.int .i64 0])/\Below w.heap.size w w':=by
 have HM:=kp (fun w=>Qo m a w dg hm ho);have HP:=kp a5z;have Nv:=kp (a16 a);have HK0:=kp (show mV a.c=rB a 0 from rfl);have HK1:=kp (show ∀k,1<a.c->rB a k++mV (ps a k)++(mV (pn a k)++mV (px a k))=rB a (k+1) from fun k h=>by show _=FB a k _;unfold FB;rw [if_pos h]);have HK2:=kp (show ∀k,¬1<a.c->rB a k++mV (ps a k)=rB a (k+1) from fun k h=>by show _=FB a k _;unfold FB;rw [if_neg h]);have au:=(aq w.heap.size w).alloc (ah _) (.cells (bj a) 54);have HB:=kp (aa.new w 54 (bj a));have ay:=kp au
 have Kj:=kp (show ∀ (W:World) (k:Nat),k<3->aa W w.heap.size 54 (bj a)->W.cell? ⟨w.heap.size,1+k*3,none⟩=some (.int .i64 (ps a k))/\W.cell? ⟨w.heap.size,1+k*3+1,none⟩=some (.int .i64 (pn a k))/\W.cell? ⟨w.heap.size,1+k*3+2,none⟩=some (.int .i64 (px a k)) from fun W k hk h=>by
  rcases k with _ | _ | _ | k
  .exact ⟨h.cell 1,h.cell 2,h.cell 3⟩
  .exact ⟨h.cell 4,h.cell 5,h.cell 6⟩
  .exact ⟨h.cell 7,h.cell 8,h.cell 9⟩
  .omega)
 have Hc0:=kp (show ∀ (W:World),aa W w.heap.size 54 (bj a)->W.cell? ⟨w.heap.size,0,none⟩=some (.int .i64 a.c) from fun W h=>h.cell 0);have HSl:=kp (fun W=>aav w.heap.size m W dg hm);have aed:=kp (show ∀W,aa W w.heap.size 54 (bj a)->_ from fun W h=>(aa.eS h).1);clear au ho;have dD:=aed.o _ HB.o;go_enter Tryz.func136,Tryz.ntmps136;go_wp2_with fail;refine (HM.o _).mono ?_;generalize dj:w.alloc (.cells (bj a) 54)=W0 at *;clear dj dD;rintro e w1 ⟨rfl,ax⟩;have aM:=aR ay ax;have bL:=bu HB ax;have c0:=Hc0.o _ bL.o;clear ax HB ay HM;go_wp2_with fail;refine (HP.o _ _).mono ?_;rintro e w2 ⟨rfl,aH⟩;have aF:=aR aM aH;have aV:=bu bL aH;clear aH bL aM c0;rw [HK0.o];have qb:=HSl.o w2;go_wp2_with fail;clear qb
 go_loopw [6,20] (fun v6 v20 wr=>∃k:Nat,k<=m/\v20 = .int .i64 (k:Nat)/\v6 = .string (rB a k)/\aa wr w.heap.size 54 (bj a)/\Below w.heap.size w wr) (fun _ v20 _=>m-(intOf v20).toNat)
 case atStart=>exact ⟨0,aZ _,rfl,rfl,aV.o,aF.o⟩
 case round =>
  clear aV aF;obtain ⟨k,hk,rfl,rfl,aJ,aC⟩:=hrel;have bO:=kp aJ;have ai:=kp aC;clear aJ aC;by_cases ae:k<m
  .obtain ⟨c0,c1,c2⟩:=Kj.o wr k (by omega) bO.o;have cS:=(aq wr.heap.size wr).alloc (ah _) (.cells #[.int .i64 (ps a k),.int .i64 (pn a k),.int .i64 (px a k)] 51);have iH:=kp (aa.new wr 51 #[.int .i64 (ps a k),.int .i64 (pn a k),.int .i64 (px a k)]);have aF:=aR ai cS;have jA:=bu bO cS;have dv:=bO.o.lt;have dz:(0:Int)<=(k:Int):=by omega
   have df:(k:Int)<(m:Int):=by omega
   have S':=Nv.o k;have iv:¬9223372036854775807<(rB a k).size+(mV (ps a k)).size:=by have:=xz (ps a k);omega
   go_upto_region 7 with fail
   generalize wr.alloc (.cells #[.int .i64 (ps a k),.int .i64 (pn a k),.int .i64 (px a k)] 51)=W2 at *;clear cS c0 c1 c2;have x0:W2.cell? ⟨wr.heap.size,0,none⟩=some (.int .i64 (ps a k)):=iH.o.cell 0;have nI:¬9223372036854775807<(rB a k).size+(mV (ps a k)).size+((mV (pn a k)).size+(mV (px a k)).size):=by have:=xz (ps a k);have:=xz (pn a k);have:=xz (px a k);omega
   have hc3:¬9223372036854775807<(mV (pn a k)).size+(mV (px a k)).size:=by have:=xz (pn a k);have:=xz (px a k);omega
   have aee:wr.heap.size<W2.heap.size:=iH.o.lt;generalize wr.heap.size=gC at *;go_wp2_with fail;refine (HP.o _ _).mono ?_;rintro e w3 ⟨rfl,aN⟩;have bC:=aR aF aN;have iu:=bu jA aN;have DJ:=bu iH aN;have y0:=Hc0.o _ iu.o;have y1:w3.cell? ⟨gC,1,none⟩=some (.int .i64 (pn a k)):=DJ.o.cell 1;have y2:w3.cell? ⟨gC,2,none⟩=some (.int .i64 (px a k)):=DJ.o.cell 2;clear aN x0 aee aF jA iH;by_cases hc:1<a.c
   .have Hn:=kp (HK1.o k hc);have NZ:decide (1<a.c)=true:=decide_eq_true hc;have hS:∀w',Below w3.heap.size w3 w'->w'.cell? ⟨gC,1,none⟩=some (.int .i64 (pn a k))/\w'.cell? ⟨gC,2,none⟩=some (.int .i64 (px a k))/\Below w3.heap.size w3 w':=fun w' h=>⟨(DJ.o.under h).cell 1,(DJ.o.under h).cell 2,h⟩
    have HS:=kp hS;clear hS;go_wp2_with fail;refine wp_region_noPanic ?_;refine dt (t:=99) (S:=(fun w'=>w'.cell? ⟨gC,1,none⟩=some (.int .i64 (pn a k))/\w'.cell? ⟨gC,2,none⟩=some (.int .i64 (px a k))/\Below w3.heap.size w3 w')) (by kernel_rfl) (HS.o _ (aq _ _).drew) (fun ad => ?_);refine tD 0 1 2 4 ad ?_;refine tk 5 ad ?_;refine oT 3 fun K hK=>?_
    go_simp
    refine (HP.o _ _).mono ?_;rintro e w4 ⟨rfl,cq⟩;refine oK hK ?_ fun af=>?_
    .exact HS.o _ (ad.2.2.trans (cq.mono ad.2.2.size))
    replace ad:=af;clear hK K af;refine oT 6 fun K hK=>?_
    go_simp
    refine (HP.o _ _).mono ?_;rintro e w5 ⟨rfl,cV⟩;refine oK hK ?_ fun af=>?_
    .exact HS.o _ (ad.2.2.trans (cV.mono ad.2.2.size))
    replace ad:=af;clear hK K af;refine oT 7 fun K hK=>?_
    go_simp
    refine oK hK ?_ fun af=>?_
    .exact ad
    replace ad:=af;clear hK K af;refine oT 8 fun K hK=>?_
    go_simp
    refine oK hK ?_ fun af=>?_
    .exact ad
    replace ad:=af;clear hK K af;refine tk 9 ad ?_;refine dY (by kernel_rfl) ?_ _
    try clear ad
    refine NoPanic.normal ?_;have a4n:Below w3.heap.size w3 w5:=((aq _ w3).drew.trans cq).trans (cV.mono (show w3.heap.size<=w4.heap.size from cq.size));go_wp2_with fail;exact ⟨⟨k+1,by omega,by go_num,by rw [<-Hn.o],iu.o.under a4n,bC.o.trans (a4n.mono bC.o.size)⟩,by simp [intOf];omega⟩
   .have Hn:=kp (HK2.o k (by omega));have NZ:decide (1<a.c)=false:=decide_eq_false hc;go_wp2_with fail;exact ⟨⟨k+1,by omega,by go_num,by rw [<-Hn.o],iu.o,bC.o⟩,by simp [intOf];omega⟩
  .obtain rfl:k=m:=by omega
   go_wp2_with fail;go_ret2;exact ⟨rfl,ai.o⟩
def pP (last:Bool) (m:Nat) (c:Cl):ByteArray:=if last=true then rB c.ag m else js c.child
theorem RE (last:Bool) (m:Nat) (c:Cl) (hm:m<=3):(pP last m c).size<=90:=by
 unfold pP;split
 .have:=a16 c.ag m;omega
 .have:=vS c.child;omega
theorem a5S (A:OA) (n c m aj:Nat) (x:Cl) (w:World) (hn:1<=n) (eZ:n<=1000000) (hd:aj<=1000000) (dg:1<=m) (hm:m<=3) (hx:x.child<=2000000) (ho:AW (decide (aj+1=n)) m x) :
 Calls Tryz.prog 98 #[.agg #[.slice A n c,.int .i64 (m:Nat)],.int .i64 (aj:Nat),.agg (bQ x)] w (uW (pP (decide (aj+1=n)) m x) w):=by
 obtain ⟨key,child,ac,s0,n0,x0,s1,n1,x1,s2,n2,x2⟩:=x;have ax:=(aq w.heap.size w).alloc (ah _) (.cells #[.slice A n c,.int .i64 (m:Nat)] 75);have au:=ax.alloc ax.size (.cells (bQ ⟨key,child,ac,s0,n0,x0,s1,n1,x1,s2,n2,x2⟩) 98);have aV:=kp ((aa.new w 75 #[.slice A n c,.int .i64 (m:Nat)]).alloc (.cells (bQ ⟨key,child,ac,s0,n0,x0,s1,n1,x1,s2,n2,x2⟩) 98));have bM:=kp (aa.lay (w:=w.alloc (.cells #[.slice A n c,.int .i64 (m:Nat)] 75)) (g:=w.heap.size+1) (t:=98) (cs:=bQ ⟨key,child,ac,s0,n0,x0,s1,n1,x1,s2,n2,x2⟩) (by simp));have ay:=kp au;have HL:=kp (fun w=>AR A n c m aj w hn eZ hd);clear au ax;dsimp only at hx;by_cases hl:aj+1=n
 .rw [decide_eq_true hl] at HL ho ⊢;obtain ⟨h1,h2⟩:=ho;have HA:=kp (fun w=>a98 m ⟨ac,s0,n0,x0,s1,n1,x1,s2,n2,x2⟩ w dg hm h2);rw [show pP true m ⟨key,child,ac,s0,n0,x0,s1,n1,x1,s2,n2,x2⟩=rB ⟨ac,s0,n0,x0,s1,n1,x1,s2,n2,x2⟩ m from rfl];generalize rB ⟨ac,s0,n0,x0,s1,n1,x1,s2,n2,x2⟩ m=t at *;generalize hQ:uW t w=Q;have HQ:=kp (show ∀w',Below w.heap.size w w'->Q (.returned (.string t)) w' from fun w' hb=>by rw [<-hQ];exact ⟨rfl,hb⟩);clear hQ h1 h2 hl hn eZ hd dg hm hx;go_enter Tryz.func98,Tryz.ntmps98;obtain ⟨b0,b1,_,_⟩:=aV.o.two;go_wp2_with fail;refine (HL.o _).mono ?_;clear b0 b1;generalize (w.alloc (.cells #[.slice A n c,.int .i64 (m:Nat)] 75)).alloc (.cells (bQ ⟨key,child,ac,s0,n0,x0,s1,n1,x1,s2,n2,x2⟩) 98)=W0 at *;rintro e w1 ⟨rfl,ax⟩;have aM:=aR ay ax;obtain ⟨b0,b1,_,_⟩:=(aV.o.under ax).two;have dD:=(aa.fQ (bM.o.under ax)).1;clear ax;go_wp2_with fail;refine (HA.o _).mono ?_;rintro e w2 ⟨rfl,aH⟩;have Hf:=kp (HQ.o _ (aM.o.trans (aH.mono aM.o.size)));clear aH b0 b1 dD;go_wp2_with fail;exact Hf.o
 .rw [decide_eq_false hl] at HL ⊢;rw [show pP false m ⟨key,child,ac,s0,n0,x0,s1,n1,x1,s2,n2,x2⟩=js child from rfl];have HP:=kp (fun w=>show Calls Tryz.prog 97 #[.int .i64 (child:Nat)] w (uW (js child) w) from Qv (child:Nat) w (by omega));generalize js child=t at *;generalize hQ:uW t w=Q;have HQ:=kp (show ∀w',Below w.heap.size w w'->Q (.returned (.string t)) w' from fun w' hb=>by rw [<-hQ];exact ⟨rfl,hb⟩);clear hQ ho hl hn eZ hd dg hm hx;go_enter Tryz.func98,Tryz.ntmps98;obtain ⟨b0,b1,_,_⟩:=aV.o.two;go_wp2_with fail;refine (HL.o _).mono ?_;clear b0 b1;generalize (w.alloc (.cells #[.slice A n c,.int .i64 (m:Nat)] 75)).alloc (.cells (bQ ⟨key,child,ac,s0,n0,x0,s1,n1,x1,s2,n2,x2⟩) 98)=W0 at *;rintro e w1 ⟨rfl,ax⟩;have aM:=aR ay ax;have dD:=(aa.fQ (bM.o.under ax)).1;clear ax;go_wp2_with fail;refine (HP.o _).mono ?_;rintro e w2 ⟨rfl,aH⟩;have Hf:=kp (HQ.o _ (aM.o.trans (aH.mono aM.o.size)));clear aH dD;go_wp2_with fail;exact Hf.o
def yT (l:List Cl):Nat->Int
 | 0 => -1
 | k+1=>((l.getD k cO).key:Nat)
def uR (last:Bool) (m:Nat) (l:List Cl) (o:ByteArray):Nat->ByteArray
 | 0=>o
 | k+1=>uR last m l o k++(js ((((l.getD k cO).key:Nat):Int)-yT l k-1).toNat++pP last m (l.getD k cO))
def uK (last:Bool) (m aj:Nat) (ls:List (List Cl)):Nat->ByteArray
 | 0=>js aj
 | k+1=>uR last m (ls.getD k []) (uK last m aj ls k++js (ls.getD k []).length) (ls.getD k []).length
def AO (last:Bool) (m:Nat) (p:aI):ByteArray:=IC (uK last m p.aj p.lists p.lists.length++pP last m p.all)
theorem Z1 (last:Bool) (m:Nat) (l:List Cl) (o:ByteArray) (hm:m<=3) (k:Nat):(uR last m l o k).size<=o.size+99*k:=by
 induction k with
 | zero=>exact ah _
 | succ k ih =>
  show (uR last m l o k++(js _++pP last m _)).size<=_;rw [ByteArray.size_append,ByteArray.size_append];have h1:=vS ((((l.getD k cO).key:Nat):Int)-yT l k-1).toNat;have h2:=RE last m (l.getD k cO) hm;omega
theorem Yh (last:Bool) (m aj:Nat) (ls:List (List Cl)) (hm:m<=3) (hl:∀l∈ls,l.length<=1000) (k:Nat):(uK last m aj ls k).size<=9+99009*k:=by
 induction k with
 | zero=>exact vS aj
 | succ k ih =>
  have h0:(ls.getD k []).length<=1000:=by
   rw [getD_eq_getElem?_getD];rcases h:ls[k]? with _ | l
   .exact aZ _
   .exact hl l (mem_of_getElem? h)
  have h1:=Z1 last m (ls.getD k []) (uK last m aj ls k++js (ls.getD k []).length) hm (ls.getD k []).length;rw [ByteArray.size_append] at h1;have h2:=vS (ls.getD k []).length;show (uR last m (ls.getD k []) (uK last m aj ls k++js (ls.getD k []).length) (ls.getD k []).length).size<=_;omega
theorem a7v (last:Bool) (m:Nat) (p:aI) (hm:m<=3) (hl:∀l∈p.lists,l.length<=1000) (h4:p.lists.length<=4):(AO last m p).size<=400000:=by
 have h1:=Yh last m p.aj p.lists hm hl p.lists.length;have h2:=RE last m p.all hm;unfold AO IC;rw [ByteArray.size_append,ByteArray.size_append];have h3:=vS (uK last m p.aj p.lists p.lists.length++pP last m p.all).size;rw [ByteArray.size_append] at h3;omega
theorem a9X {l:List Cl} (h:∀c∈l,c.key<=1000000) (k:Nat) : -1<=yT l k/\yT l k<=1000000:=by
 rcases k with _ | k
 .exact ⟨Int.le_refl _,show (-1:Int)<=1000000 by decide⟩
 .show -1<=(((l.getD k cO).key:Nat):Int)/\(((l.getD k cO).key:Nat):Int)<=1000000;rw [getD_eq_getElem?_getD];rcases e:l[k]? with _ | c
  .exact ⟨by decide,by decide⟩
  .have:=h c (mem_of_getElem? e);show -1<=((c.key:Nat):Int)/\((c.key:Nat):Int)<=1000000;omega
def LQ (s:ByteArray) (w:World) (e:Ending) (w':World):Prop:=e = .returned (.tuple #[.string s,.int .i64 0])/\Below w.heap.size w w'
theorem a8a (A:OA) (c m:Nat) (xs:List Fa) (n:Nd) (w:World) (h:ep w w.heap.size A xs) (hr:dp w w.heap.size n) (eZ:xs.length<=16) (dg:1<=m) (hm:m<=3) (eH:n.aj<xs.length) (ho:yK (decide (n.aj+1=xs.length)) (xs[n.aj]'eH).keys m (az n)) (Ir:∀l∈n.ls,l.cs.length<=1000) :
 Calls Tryz.prog 48 #[.agg #[.slice A xs.length c,.int .i64 (m:Nat)],.agg (bG n)] w (LQ (AO (decide (n.aj+1=xs.length)) m (az n)) w):=by
 have ee:=kp (fun w' (hb:Below w.heap.size w w')=>XC A c m xs n w' ((h.below hb).more hb.size) ((hr.below hb).more hb.size) eZ dg hm eH ho);obtain ⟨aj,nA,ls,nc,key,child,ac,s0,n0,x0,s1,n1,x1,s2,n2,x2⟩:=n;have fw:=ho.n4;have kL:=kp ho.size;have DM:=kp ho.each;have fZ:=ho.ls;have a4o:=ho.child;have eY:=ho.all;dsimp only [az] at eH fZ fw a4o eY DM kL ee Ir;have Hsh:=kp Ir;rw [lM] at fZ fw;generalize kU:decide (aj+1=xs.length)=last at *;have HSb:=kp (fun k=>Yh last m aj (ls.map Ll.cs) hm (fun l hl=>by obtain ⟨y,hy,rfl⟩:=mem_map.1 hl;exact Hsh.o y hy) k);have HP:=kp Qv;have HT:=kp a9D
 have Wt:=kp (fun (x:Cl) w (h1:x.child<=2000000) (h2:AW last m x)=>show Calls Tryz.prog 98 #[.agg #[.slice A xs.length c,.int .i64 (m:Nat)],.int .i64 (aj:Nat),.agg (bQ x)] w (uW (pP last m x) w) from by
  have:=a5S A xs.length c m aj x w (by omega) (by omega) (by omega) dg hm h1 (by rw [kU];exact h2);rw [kU] at this
  exact this)
 have HCs:=kp (fun (x:Cl)=>RE last m x hm);have HRs:=kp (fun (l:List Cl) o k=>Z1 last m l o hm k);have Lp:=kp (show AO last m (az ⟨aj,nA,ls,nc,key,child,ac,s0,n0,x0,s1,n1,x1,s2,n2,x2⟩)=IC (uK last m aj (ls.map Ll.cs) ls.length++pP last m ⟨key,child,ac,s0,n0,x0,s1,n1,x1,s2,n2,x2⟩) from by unfold AO az;dsimp only;rw [lM]);generalize AO last m (az ⟨aj,nA,ls,nc,key,child,ac,s0,n0,x0,s1,n1,x1,s2,n2,x2⟩)=R at *;obtain ⟨Q,hQ⟩:∃Q,LQ R w=Q:=⟨_,rfl⟩
 have HQ:=kp (show ∀w',Below w.heap.size w w'->Q (.returned (.tuple #[.string R,.int .i64 0])) w' from fun w' hb=>by rw [<-hQ];exact ⟨rfl,hb⟩);rw [hQ];have HX:∀l∈ls,(∀x∈l.cs,x.key<=1000000)/\(∀x∈l.cs,x.child<=2000000)/\∀x∈l.cs,AW last m x:=fun l hl=>by
  obtain ⟨k,hk,rfl⟩:=getElem_of_mem hl;have Bi:k<(xs[aj]'eH).keys.length:=by rw [<-fZ];exact hk
  have h1:=DM.o k _ _ (IZ hk) (gE Bi);have h2:=kL.out _ (gM Bi);exact ⟨fun x hx=>by have:=h1.key x hx;omega,h1.child,h1.cell⟩
 have FY:=kp HX;obtain ⟨nx,fh⟩:∃nx,xs.length=nx:=⟨_,rfl⟩
 obtain ⟨lx,dr⟩:∃lx,ls.length=lx:=⟨_,rfl⟩
 have ml:=kp dr;have af8:aj<=16:=by omega
 dsimp only [bG];dsimp only [bG] at ee;rw [fh] at ee Wt ⊢;rw [dr] at ee Lp fw ⊢;have Hr:=kp hr;have ax:=(aq w.heap.size w).alloc (ah _) (.cells #[.slice A nx c,.int .i64 (m:Nat)] 75);have au:=ax.alloc ax.size (.cells #[.int .i64 (aj:Nat),.slice nA lx nc,.int .i64 (key:Nat),.int .i64 (child:Nat),.int .i64 ac,.int .i64 s0,.int .i64 n0,.int .i64 x0,.int .i64 s1,.int .i64 n1,.int .i64 x1,.int .i64 s2,.int .i64 n2,.int .i64 x2] 100);have aV:=kp ((aa.new w 75 #[.slice A nx c,.int .i64 (m:Nat)]).alloc (.cells #[.int .i64 (aj:Nat),.slice nA lx nc,.int .i64 (key:Nat),.int .i64 (child:Nat),.int .i64 ac,.int .i64 s0,.int .i64 n0,.int .i64 x0,.int .i64 s1,.int .i64 n1,.int .i64 x1,.int .i64 s2,.int .i64 n2,.int .i64 x2] 100));have bM:=kp (aa.lay (w:=w.alloc (.cells #[.slice A nx c,.int .i64 (m:Nat)] 75)) (g:=w.heap.size+1) (t:=100) (cs:=#[.int .i64 (aj:Nat),.slice nA lx nc,.int .i64 (key:Nat),.int .i64 (child:Nat),.int .i64 ac,.int .i64 s0,.int .i64 n0,.int .i64 x0,.int .i64 s1,.int .i64 n1,.int .i64 x1,.int .i64 s2,.int .i64 n2,.int .i64 x2]) (by simp));have ay:=kp au;clear fh dr hr h ho ax au hQ HX fZ kL DM eH eZ kU Ir;generalize dj:(w.alloc (.cells #[.slice A nx c,.int .i64 (m:Nat)] 75)).alloc (.cells #[.int .i64 (aj:Nat),.slice nA lx nc,.int .i64 (key:Nat),.int .i64 (child:Nat),.int .i64 ac,.int .i64 s0,.int .i64 n0,.int .i64 x0,.int .i64 s1,.int .i64 n1,.int .i64 x1,.int .i64 s2,.int .i64 n2,.int .i64 x2] 100)=W0 at *;have Ce:=kp (ee.o W0 ay.o);obtain ⟨b0,b1,_,_⟩:=aV.o.two;have dD:=(aa.cw bM.o).1;go_enter Tryz.func48,Tryz.ntmps48;go_wp2_with fail;refine Ce.o.mono ?_;clear dj b0 b1 dD Ce ee;rintro e w1 ⟨rfl,ax⟩;have aM:=aR ay ax;have a4p:=bu aV ax;have Wu:=bu bM ax;clear ax ay aV bM;have dD:=(aa.cw Wu.o).1;have a4q:((aj:Nat):Int)<9223372036854775808:=by omega
 go_wp2_with fail;refine (HP.o _ _ a4q).mono ?_;clear dD;rintro e w2 ⟨rfl,aH⟩;have aF:=aR aM aH;have a4r:=bu a4p aH;have Wv:=bu Wu aH;clear aH aM a4p Wu a4q;have dD:=(aa.cw Wv.o).1;rw [Int.toNat_natCast];go_wp2_with fail;clear dD
 go_loopw [7,25] (fun v7 v25 wr=>∃k:Nat,k<=lx/\v25 = .int .i64 (k:Nat)/\v7 = .string (uK last m aj (ls.map Ll.cs) k)/\aa wr w.heap.size 75 #[.slice A nx c,.int .i64 (m:Nat)]/\aa wr (w.heap.size+1) 100 #[.int .i64 (aj:Nat),.slice nA lx nc,.int .i64 (key:Nat),.int .i64 (child:Nat),.int .i64 ac,.int .i64 s0,.int .i64 n0,.int .i64 x0,.int .i64 s1,.int .i64 n1,.int .i64 x1,.int .i64 s2,.int .i64 n2,.int .i64 x2]/\Below w.heap.size w wr) (fun _ v25 _=>lx-(intOf v25).toNat)
 case atStart=>exact ⟨0,aZ _,rfl,rfl,a4r.o,Wv.o,aF.o⟩
 case round =>
  clear a4r Wv aF;obtain ⟨k,hk,rfl,rfl,vm,ov,aC⟩:=hrel;have Is:=kp vm;have yA:=kp ov;have ai:=kp aC;clear vm ov aC;by_cases ae:k<lx
  .have aA:k<ls.length:=by rw [ml.o];exact ae
   have da:=(Hr.o.below ai.o)
   obtain ⟨bl,ol,hA,zl,l0⟩:=Row.at_ da.row (k:=k) (by rw [lM];exact aA);rw [getElem_map] at l0;dsimp only at hA;subst hA;obtain ⟨EA,Ww,Wx⟩:=FY.o _ (gM aA);have dR:=Hsh.o _ (gM aA);have rR:=kp (fun w' (hb:Below w.heap.size w w')=>((Hr.o.below hb).each _ (gM aA)).more hb.size);have jC:=HSb.o k
   have a4s:=kp (show uK last m aj (ls.map Ll.cs) (k+1)=uR last m (ls[k]'aA).cs (uK last m aj (ls.map Ll.cs) k++js (ls[k]'aA).cs.length) (ls[k]'aA).cs.length from by
    show uR last m ((ls.map Ll.cs).getD k []) _ _=_;rw [getD_eq_getElem?_getD,IZ aA]
    rfl)
   unfold fi at l0;generalize uK last m aj (ls.map Ll.cs) k=LK at *;generalize (ls[k]'aA).A=lA at *;generalize (ls[k]'aA).cs=cs at *;have mc:=kp (HRs.o cs);have US:=kp (fun j=>a9X EA j);have EA:=kp EA;have Ww:=kp Ww;have Wx:=kp Wx;obtain ⟨ll,qt⟩:∃ll,cs.length=ll:=⟨_,rfl⟩
   have kQ:=kp qt;rw [qt] at l0 a4s dR;clear qt da;generalize (ls[k]'aA).c=lc at *;have td:(0:Int)<=(k:Int):=by omega
   have cz:(k:Int)<(lx:Int):=by omega
   have aef:((ll:Nat):Int)<9223372036854775808:=by omega
   have iv:¬9223372036854775807<LK.size+(js ll).size:=by have:=vS ll;omega
   have dD:=(aa.cw yA.o).1;go_wp2_with fail;refine (HP.o _ _ aef).mono ?_;clear dD l0;rintro e w3 ⟨rfl,aN⟩;have bC:=aR ai aN;have a4t:=bu Is aN;have a4u:=bu yA aN;clear aN ai Is yA;rw [Int.toNat_natCast];go_wp2_with fail;have HO:=kp (show (LK++js ll).size<=1000000 by rw [ByteArray.size_append];have:=vS ll;omega);clear iv jC;generalize LK++js ll=O at *
   go_loopw [7,10,36] (fun v7 nD Wy wr=>∃j:Nat,j<=ll/\Wy = .int .i64 (j:Nat)/\nD = .int .i64 (yT cs j)/\v7 = .string (uR last m cs O j)/\aa wr w.heap.size 75 #[.slice A nx c,.int .i64 (m:Nat)]/\aa wr (w.heap.size+1) 100 #[.int .i64 (aj:Nat),.slice (some ⟨bl,ol,none⟩) lx nc,.int .i64 (key:Nat),.int .i64 (child:Nat),.int .i64 ac,.int .i64 s0,.int .i64 n0,.int .i64 x0,.int .i64 s1,.int .i64 n1,.int .i64 x1,.int .i64 s2,.int .i64 n2,.int .i64 x2]/\Below w.heap.size w wr) (fun _ _ Wy _=>ll-(intOf Wy).toNat)
   case atStart=>exact ⟨0,aZ _,rfl,rfl,rfl,a4t.o,a4u.o,bC.o⟩
   case round =>
    clear a4t a4u bC;obtain ⟨j,hj,rfl,rfl,rfl,vm,ov,aC⟩:=hrel;have Is:=kp vm;have yA:=kp ov;have ai:=kp aC;clear vm ov aC;by_cases lu:j<ll
    .have fO:j<cs.length:=by rw [kQ.o];exact lu
     obtain ⟨bc,oc,zX,cU,c0,c1,c2,c3,c4,c5,c6,c7,c8,c9,iw,rb⟩:=rO (rR.o _ ai.o) j fO;subst zX;have kt:cs.getD j cO=cs[j]'fO:=by rw [getD_eq_getElem?_getD,gE fO];rfl
     have HNj:=kp (show uR last m cs O (j+1)=uR last m cs O j++(js ((((cs[j]'fO).key:Nat):Int)-yT cs j-1).toNat++pP last m (cs[j]'fO)) from by
      show uR last m cs O j++(js ((((cs.getD j cO).key:Nat):Int)-yT cs j-1).toNat++pP last m (cs.getD j cO))=_
      rw [kt])
     have Hwn:=kp (show yT cs (j+1)=(((cs[j]'fO).key:Nat):Int) from by
      show (((cs.getD j cO).key:Nat):Int)=_
      rw [kt])
     have pW:=EA.o _ (gM fO);have hxc:=Ww.o _ (gM fO);have hxo:=Wx.o _ (gM fO);have zr:=US.o j;have De:=mc.o O j;clear kt;generalize (cs[j]'fO)=x at *;generalize yT cs j=ws at *;generalize uR last m cs O j=RJ at *;have Wz:=kp (fun w=>Wt.o x w hxc hxo);have Eg:=HCs.o x;have Co:=HO.o;have HPx:=kp (fun w=>HP.o (((x.key:Nat):Int)-ws-1) w (by omega));have sQ:¬9223372036854775807<(js (((x.key:Nat):Int)-ws-1).toNat).size+(pP last m x).size:=by have:=vS (((x.key:Nat):Int)-ws-1).toNat;omega
     have Ni:¬9223372036854775807<RJ.size+((js (((x.key:Nat):Int)-ws-1).toNat).size+(pP last m x).size):=by have:=vS (((x.key:Nat):Int)-ws-1).toNat;omega
     generalize js (((x.key:Nat):Int)-ws-1).toNat=NB at *;generalize pP last m x=CB at *;have aeg:IntKind.i64.wrap (((x.key:Nat):Int)-ws)=((x.key:Nat):Int)-ws:=IntWalk.i64_in _ (by omega);have aeh:IntKind.i64.wrap (((x.key:Nat):Int)-ws-1)=((x.key:Nat):Int)-ws-1:=IntWalk.i64_in _ (by omega);have cS:=(aq wr.heap.size wr).alloc (ah _) (.cells (bQ x) 98);have iH:=kp (aa.new wr 98 (bQ x));have bH:=aR ai cS;have WA:=bu Is cS;have a4v:=bu yA cS;have hj0:(0:Int)<=(j:Int):=by omega
     have L2:(j:Int)<(ll:Int):=by omega
     clear cS pW hxc hxo zr De Eg Co fO;go_upto_region 13 with fail
     clear c0 c1 c2 c3 c4 c5 c6 c7 c8 c9 iw rb;generalize wr.alloc (.cells (bQ x) 98)=W4 at *;generalize wr.heap.size=gC at *;have HS:=kp (show ∀w',Below W4.heap.size W4 w'->(nV w' gC x)/\(w'.cell? ⟨w.heap.size,0,none⟩=some (.slice A nx c)/\w'.cell? ⟨w.heap.size,1,none⟩=some (.int .i64 (m:Nat)))/\w'.cell? ⟨w.heap.size+1,0,none⟩=some (.int .i64 (aj:Nat))/\Below W4.heap.size W4 w' from fun w' h=>⟨(aa.fQ (iH.o.under h)).1,⟨(WA.o.under h).cell 0,(WA.o.under h).cell 1⟩,(a4v.o.under h).cell 0,h⟩);refine wp_region_noPanic ?_;refine dt (t:=99) (S:=(fun w'=>(nV w' gC x)/\(w'.cell? ⟨w.heap.size,0,none⟩=some (.slice A nx c)/\w'.cell? ⟨w.heap.size,1,none⟩=some (.int .i64 (m:Nat)))/\w'.cell? ⟨w.heap.size+1,0,none⟩=some (.int .i64 (aj:Nat))/\Below W4.heap.size W4 w')) (by kernel_rfl) (HS.o _ (aq _ _).drew) (fun ad => ?_);refine tD 0 1 2 3 ad ?_;refine tD 4 5 7 8 ad ?_;refine tB 9 10 ad ?_;refine oT 6 fun K hK=>?_
     go_simp
     refine (HPx.o _).mono ?_;rintro e w5 ⟨rfl,cV⟩;refine oK hK ?_ fun af=>?_
     .exact HS.o _ (ad.2.2.2.trans (cV.mono ad.2.2.2.size))
     replace ad:=af;clear hK K af;refine oT 11 fun K hK=>?_
     go_simp
     refine (Wz.o _).mono ?_;rintro e w6 ⟨rfl,eR⟩;refine oK hK ?_ fun af=>?_
     .exact HS.o _ (ad.2.2.2.trans (eR.mono ad.2.2.2.size))
     replace ad:=af;clear hK K af;refine oT 12 fun K hK=>?_
     go_simp
     refine oK hK ?_ fun af=>?_
     .exact ad
     replace ad:=af;clear hK K af;refine oT 13 fun K hK=>?_
     go_simp
     refine oK hK ?_ fun af=>?_
     .exact ad
     replace ad:=af;clear hK K af;refine tk 14 ad ?_;refine dY (by kernel_rfl) ?_ _
     try clear ad
     refine NoPanic.normal ?_;have Ly:Below W4.heap.size W4 w6:=((aq _ W4).drew.trans cV).trans (eR.mono (show W4.heap.size<=w5.heap.size from cV.size));have eI:=aR bH Ly;have aei:=bu iH Ly;have aej:=bu WA Ly;have aek:=bu a4v Ly;have c0:w6.cell? ⟨gC,0,none⟩=some (.int .i64 x.key):=aei.o.cell 0;clear cV eR Ly sQ Ni aeg aeh;go_wp2_with fail;exact ⟨⟨j+1,by omega,by go_num,by rw [Hwn.o],by rw [HNj.o],aej.o,aek.o,eI.o⟩,by simp [intOf];omega⟩
    .obtain rfl:j=ll:=by omega
     go_wp2_with fail;exact ⟨⟨k+1,by omega,by go_num,by rw [a4s.o],Is.o,yA.o,ai.o⟩,by simp [intOf];omega⟩
  .obtain rfl:k=lx:=by omega
   have Wz:=kp (fun w=>Wt.o ⟨key,child,ac,s0,n0,x0,s1,n1,x1,s2,n2,x2⟩ w a4o eY);have Eg:=HCs.o ⟨key,child,ac,s0,n0,x0,s1,n1,x1,s2,n2,x2⟩;have Cs:=HSb.o k;generalize pP last m ⟨key,child,ac,s0,n0,x0,s1,n1,x1,s2,n2,x2⟩=CB at *;generalize uK last m aj (ls.map Ll.cs) k=LK at *;have sQ:¬9223372036854775807<LK.size+CB.size:=by omega
   have uG:=kp (fun w=>HT.o (LK++CB) w (by rw [ByteArray.size_append];omega));have dD:=(aa.cw yA.o).1;obtain ⟨b0,b1,_,_⟩:=Is.o.two;clear Eg Cs;go_wp2_with fail;refine (Wz.o _).mono ?_;clear dD b0 b1;rintro e w5 ⟨rfl,cV⟩;go_wp2_with fail;refine (uG.o _).mono ?_;rintro e w6 ⟨rfl,eR⟩;have Hf:=kp (HQ.o w6 (ai.o.trans ((cV.trans (eR.mono cV.size)).mono ai.o.size)));rw [Lp.o] at Hf;clear cV eR;go_wp2_with fail;exact Hf.o
def nS {α:Type} (g:α->α) (k:Nat) (l:List α):List α:=(l.take k).map g++l.drop k
section
variable {α:Type} {g:α->α} {k:Nat} {l:List α}
theorem EI:(nS g k l).length=l.length:=by
 unfold nS;rw [aS,lM,length_take,length_drop];omega
theorem LM (hk:k<l.length):(nS g k l)[k]'(by rw [EI];exact hk)=l[k]:=by
 unfold nS;rw [getElem_append_right (by rw [lM,length_take];omega),getElem_drop]
 congr 1
 rw [lM,length_take];omega
theorem Zc (hk:k<l.length):(nS g k l).set k (g l[k])=nS g (k+1) l:=by
 unfold nS;have hl:((l.take k).map g).length=k:=by rw [lM,length_take];omega
 rw [take_succ_eq_append_getElem hk,map_append,map_cons,map_nil,append_assoc,singleton_append,set_append_right _ _ (by omega),hl,Nat.sub_self,drop_eq_getElem_cons hk,set_cons_zero]
theorem a0x (hk:k=l.length):nS g k l=l.map g:=by
 subst hk;unfold nS;rw [take_length,drop_length,append_nil]
end
def vT (f:Nat->Nat) (c:Cl):Cl:=⟨c.key,f c.child,c.ag⟩
def xP (f:Nat->Nat) (l:Ll):Ll:=⟨l.A,l.cs.map (vT f),l.c⟩
def lS (last:Bool) (f:Nat->Nat) (p:aI):aI:=if last=true then p else ⟨p.aj,p.lists.map fun l=>l.map (vT f),vT f p.all⟩
theorem MX {w:World} {B e sz n:Nat} {v:Value} {xs:LV} (h:w.ownsRow B e sz v n xs) {p:Addr} (hp:v.ownBlock≠some p.block) (u:Value):(w.setCell p u).ownsRow B e sz v n xs:=by
 obtain ⟨h1,h2⟩:=h;refine ⟨h1,?_⟩;rcases h2 with h2 | ⟨g,cap,cur,hv,hB,hh,r⟩
 .exact .inl h2
 .refine .inr ⟨g,cap,cur,hv,hB,?_,r⟩;rw [Below.heap_setCell _ _ _ _ (fun e=>hp (by rw [hv,<-e];rfl))];exact hh
theorem MK {w:World} {B e sz n g:Nat} {t:TypeId} {cs:AV} {v:Value} {xs:LV} (h:w.ownsRow B e sz v n xs) (hb:aa w g t cs) (av:e≠t):v.ownBlock≠some g:=by
 intro e1;obtain ⟨c1,h1⟩:=IY h e1;rw [hb] at h1;injection h1 with h1
 injection h1 with h1 h2
 exact av h2.symm
theorem abt {w:World} {B e sz n g:Nat} {v:Value} {xs:LV} (h:w.ownsRow B e sz v n xs) (hg:v.ownBlock=some g) (o:Nat):w.frozen? ⟨g,o,none⟩=false:=by
 obtain ⟨cs,h1⟩:=IY h hg;simp [World.frozen?,h1]
theorem Cz.box {w:World} {B c g i:Nat} {t:TypeId} {cs:AV} {A:OA} {ls:List Ll} (h:Cz w B A c ls) (hb:aa w g t cs) (h1:164≠t) (h2:98≠t) (u:Value):Cz (w.setCell ⟨g,i,none⟩ u) B A c ls :=
 ⟨MX h.row (MK h.row hb h1) u,fun l hl=>MX (h.own l hl) (MK (h.own l hl) hb h2) u,h.apart⟩
theorem Cz.all {B c g:Nat} {t:TypeId} {A:OA} {ls:List Ll} (h1:164≠t) (h2:98≠t):∀ (vs:LV) (w:World) (o:Nat) (cs:AV),aa w g t cs->Cz w B A c ls->Cz (aK w g o vs) B A c ls
 | [],_,_,_,_,h=>h
 | v::vs,w,o,cs,hb,h=>Cz.all h1 h2 vs _ (o+1) _ (hb.set o v) (h.box hb h1 h2 v)
theorem Zk:∀ (cs:List Cl) (j:Nat) (hj:j<cs.length) (u:Nat),(cs.flatMap bT).set (j*12+1) (.int .i64 (u:Nat))=(cs.set j ⟨cs[j].key,u,cs[j].ag⟩).flatMap bT
 | [],j,hj,u=>absurd hj (Nat.not_lt_zero _)
 | c::cs,0,hj,u=>rfl
 | c::cs,j+1,hj,u=>by
  rw [flatMap_cons,set_append_right _ _ (by rw [yM];omega),yM,show (j+1)*12+1-12=j*12+1 by omega,Zk cs j (Nat.lt_of_succ_lt_succ hj) u];rfl
theorem Cz.store {w:World} {B c k j g:Nat} {A:OA} {ls:List Ll} (h:Cz w B A c ls) (hk:k<ls.length) (hj:j<ls[k].cs.length) (hg:(sG ls[k]).ownBlock=some g) (u:Nat) :
 Cz (w.setCell ⟨g,j*12+1,none⟩ (.int .i64 (u:Nat))) B A c (ls.set k ⟨ls[k].A,ls[k].cs.set j ⟨ls[k].cs[j].key,u,ls[k].cs[j].ag⟩,ls[k].c⟩):=by
 have fv:=pairwise_iff_getElem.1 h.apart;have hl:((ls.set k ⟨ls[k].A,ls[k].cs.set j ⟨ls[k].cs[j].key,u,ls[k].cs[j].ag⟩,ls[k].c⟩).map fi)=ls.map fi:=by
  rw [map_set];refine ext_getElem (by simp) fun i h1 h2 => ?_
  rw [getElem_set];split
  .rename_i e;subst e;rw [getElem_map];unfold fi;rw [length_set]
  .rfl
 have hc:((ls.set k ⟨ls[k].A,ls[k].cs.set j ⟨ls[k].cs[j].key,u,ls[k].cs[j].ag⟩,ls[k].c⟩).map sG)=ls.map sG:=by
  rw [map_set];refine ext_getElem (by simp) fun i h1 h2 => ?_
  rw [getElem_set];split
  .rename_i e;subst e;rw [getElem_map];show Value.slice _ _ _=Value.slice _ _ _;rw [length_set]
  .rfl
 have av:164≠98:=by decide
 refine ⟨?_,fun l ja => ?_,?_⟩
 .rw [length_set,hl];refine MX h.row (fun e => ?_) _;rcases MA h.row (h.own _ (gM hk)) av with h0 | h0
  .rw [h0] at e;cases e
  .exact h0 (e.trans hg.symm)
 .obtain ⟨i,hi,rfl⟩:=getElem_of_mem ja;rw [length_set] at hi;rw [getElem_set];split
  .have ho:=h.own _ (gM hk);unfold sG;dsimp only;rw [length_set,<-Zk];rcases ho.2 with ⟨h0,hz⟩ | ⟨g',cap,cur,hv,_⟩
   .exact absurd hj (by rw [hz];omega)
   .unfold sG at ho hv hg;rw [hv] at ho hg ⊢;injection hg with hg
    subst hg;exact gX ho (by rw [ho.1];omega) _
  .rename_i oR;refine MX (h.own _ (gM hi)) (fun e => ?_) _;rcases Nat.lt_or_gt_of_ne oR with h0 | h0
   .exact fv k i hk hi h0 g hg e
   .exact fv i k hi hk h0 g e hg
 .have ha:(ls.map sG).Pairwise fun v v'=>∀b,v.ownBlock=some b->v'.ownBlock≠some b:=pairwise_map.2 h.apart
  rw [<-hc] at ha;exact pairwise_map.1 ha
def LW (p:aI) (w:World) (e:Ending) (w':World):Prop:=∃n:Nd,e = .returned (.agg (bG n))/\az n=p/\dp w' w'.heap.size n/\Below w.heap.size w w'
theorem Cz.node {w:World} {B c:Nat} {A:OA} {ls:List Ll} (h:Cz w B A c ls) (aj:Nat) (all:Cl):dp w w.heap.size ⟨aj,A,ls,c,all⟩:=⟨gV h.row,fun l hl=>gV (h.own l hl)⟩
theorem Cz.same {w:World} {B c:Nat} {A:OA} {ls zV:List Ll} (h:Cz w B A c ls) (e:ls=zV):Cz w B A c zV:=e▸h
theorem a7' {w:World} {B j lc:Nat} {lA:OA} {cs:List Cl} (h:w.ownsRow B 98 12 (.slice lA cs.length lc) cs.length (cs.flatMap bT)) (hj:j<cs.length):∃g,lA=some ⟨g,0,none⟩/\w.cell? ⟨g,j*12+1,none⟩=some (.int .i64 (cs[j].child:Nat)):=by
 rcases h.2 with ⟨_,h0⟩ | ⟨g,cap,cur,hv,_⟩
 .omega
 .injection hv with hA _ _
  obtain ⟨b,off,e,_,_,c1,_⟩:=rO (gV h) j hj;rw [hA] at e;injection e with e
  injection e with e1 e2 _
  subst e1 e2;rw [Nat.zero_add] at c1;exact ⟨g,hA,c1⟩
theorem Cz.put {w:World} {B c k j g:Nat} {A:OA} {ls:List Ll} {l:Ll} {x:Cl} (h:Cz w B A c ls) (hk:ls[k]? = some l) (hj:l.cs[j]? = some x) (hg:(sG l).ownBlock=some g) (u:Nat) :
 Cz (w.setCell ⟨g,j*12+1,none⟩ (.int .i64 (u:Nat))) B A c (ls.set k ⟨l.A,l.cs.set j ⟨x.key,u,x.ag⟩,l.c⟩):=by
 obtain ⟨jF,rfl⟩:=bS hk;obtain ⟨vW,rfl⟩:=bS hj;exact h.store jF vW hg u
theorem a7V (A:OA) (nx c m fn:Nat) (so:AV) (f:Nat->Nat) (n:Nd) (w:World) (hr:dp w w.heap.size n) (fw:n.ls.length<=4) (hl:∀l∈n.ls,l.cs.length<=1000) (h1:1<=nx) (h2:nx<=1000000) (hd:n.aj<=1000000)
 (Cj:∀ (args:AV) (w:World),(callFunc fn args).run Tryz.prog w = .ok (.enter fn args) w)
 (fH:n.aj+1≠nx->∀x:Cl,(x=n.all\/∃l∈n.ls,x∈l.cs)->∀W,Below w.heap.size w W->Calls Tryz.prog fn (#[.int .i64 x.child]++so) W fun e W'=>e = .returned (.int .i64 (f x.child:Nat))/\W'=W) :
 Calls Tryz.prog 49 #[.agg #[.slice A nx c,.int .i64 (m:Nat)],.agg (bG n),.func (.func fn) #[] so] w (LW (lS (decide (n.aj+1=nx)) f (az n)) w):=by
 have zx:=kp (fun w' (hb:Below w.heap.size w w')=>YU n w' ((hr.below hb).more hb.size) fw (fun l h=>aT (hl l h) (by decide)));have HL:=kp (fun w=>AR A nx c m n.aj w h1 h2 hd);have HQ:=kp (show ∀ (n':Nd) w',az n'=lS (decide (n.aj+1=nx)) f (az n)->dp w' w'.heap.size n'->Below w.heap.size w w'->LW (lS (decide (n.aj+1=nx)) f (az n)) w (.returned (.agg (bG n'))) w' from fun n' w' a b c=>⟨n',rfl,a,b,c⟩);have Hl:=kp hl;have fU:=kp fH;generalize hQQ:LW (lS (decide (n.aj+1=nx)) f (az n)) w=Q at *;clear hQQ hr hl fH;obtain ⟨aj,nA,ls,nc,key,child,ac,s0,n0,x0,s1,n1,x1,s2,n2,x2⟩:=n;dsimp only [bG] at *;obtain ⟨lx,dr⟩:∃lx,ls.length=lx:=⟨_,rfl⟩
 rw [dr] at zx fw ⊢;have ml:=kp dr;have Hn4:=kp fw;clear dr fw h1 h2 hd;have ax:=(aq w.heap.size w).alloc (ah _) (.cells #[.slice A nx c,.int .i64 (m:Nat)] 75);have a4w:=aa.new w 75 #[.slice A nx c,.int .i64 (m:Nat)];generalize dj:w.alloc (.cells #[.slice A nx c,.int .i64 (m:Nat)] 75)=W0 at *;have oY:W0.heap.size=w.heap.size+1:=by rw [<-dj];simp
 have aH:=ax.alloc ax.size (.cells #[.int .i64 (aj:Nat),.slice nA lx nc,.int .i64 (key:Nat),.int .i64 (child:Nat),.int .i64 ac,.int .i64 s0,.int .i64 n0,.int .i64 x0,.int .i64 s1,.int .i64 n1,.int .i64 x1,.int .i64 s2,.int .i64 n2,.int .i64 x2] 100);have a4x:=a4w.alloc (.cells #[.int .i64 (aj:Nat),.slice nA lx nc,.int .i64 (key:Nat),.int .i64 (child:Nat),.int .i64 ac,.int .i64 s0,.int .i64 n0,.int .i64 x0,.int .i64 s1,.int .i64 n1,.int .i64 x1,.int .i64 s2,.int .i64 n2,.int .i64 x2] 100);have a4y:=aa.lay (w:=W0) (t:=100) (cs:=#[.int .i64 (aj:Nat),.slice nA lx nc,.int .i64 (key:Nat),.int .i64 (child:Nat),.int .i64 ac,.int .i64 s0,.int .i64 n0,.int .i64 x0,.int .i64 s1,.int .i64 n1,.int .i64 x1,.int .i64 s2,.int .i64 n2,.int .i64 x2]) oY;generalize dk:W0.alloc (.cells #[.int .i64 (aj:Nat),.slice nA lx nc,.int .i64 (key:Nat),.int .i64 (child:Nat),.int .i64 ac,.int .i64 s0,.int .i64 n0,.int .i64 x0,.int .i64 s1,.int .i64 n1,.int .i64 x1,.int .i64 s2,.int .i64 n2,.int .i64 x2] 100)=W1 at *;have fe:W1.heap.size=w.heap.size+1+1:=by rw [<-dk];simp [oY]
 have aN:=aH.alloc aH.size (.cells zN 100);have a4z:=a4x.alloc (.cells zN 100);have WB:=a4y.alloc (.cells zN 100);have a4A:=aa.lay (w:=W1) (t:=100) (cs:=zN) fe;generalize dN:W1.alloc (.cells zN 100)=W2 at *;have kT:W2.heap.size=w.heap.size+1+1+1:=by rw [<-dN];simp [fe]
 have aF:=kp aN;have a4B:=kp a4z;have DV:=kp WB;have vd:=kp a4A;have Hz2:=kp kT;have H':=kp (zx.o W2 aN);have dD:=(aa.cw WB).1;clear ax a4w aH a4x a4y aN a4z WB a4A kT;go_enter Tryz.func49,Tryz.ntmps49;go_wp2_with fail;refine H'.o.mono ?_;clear dj dk dN oY fe dD H' zx;rintro e w1 ⟨⟨GJ,A1,ig,c1,afa⟩,rfl,cM,br,oC,aC,uC,wP⟩;unfold az at cM;injection cM with e1 e2 e3
 dsimp only at e1 e2 e3;obtain rfl:aj=GJ:=e1.symm;subst e3;have te:=kp wP;have BW:=kp e2;have iT:ig.length=lx:=by have:=congrArg length e2;rw [lM,lM,ml.o] at this;exact this
 have Bw:=kp iT;have aM:=aR aF aC;have a4C:=bu a4B aC;have yj:=bu DV aC;have Gd:=bu vd aC;have Hz1:=kp (show w.heap.size+1+1+1<=w1.heap.size from by rw [<-Hz2.o];exact aC.size);dsimp only [bG];rw [iT];clear e2 br oC aC uC wP iT aF a4B DV vd;have lH:=(aq w1.heap.size w1).alloc (ah _) (.cells #[.int .i64 (aj:Nat),.slice A1 lx c1,.int .i64 (key:Nat),.int .i64 (child:Nat),.int .i64 ac,.int .i64 s0,.int .i64 n0,.int .i64 x0,.int .i64 s1,.int .i64 n1,.int .i64 x1,.int .i64 s2,.int .i64 n2,.int .i64 x2] 100);have HBo:=kp (aa.new w1 100 #[.int .i64 (aj:Nat),.slice A1 lx c1,.int .i64 (key:Nat),.int .i64 (child:Nat),.int .i64 ac,.int .i64 s0,.int .i64 n0,.int .i64 x0,.int .i64 s1,.int .i64 n1,.int .i64 x1,.int .i64 s2,.int .i64 n2,.int .i64 x2]);generalize dH:w1.alloc (.cells #[.int .i64 (aj:Nat),.slice A1 lx c1,.int .i64 (key:Nat),.int .i64 (child:Nat),.int .i64 ac,.int .i64 s0,.int .i64 n0,.int .i64 x0,.int .i64 s1,.int .i64 n1,.int .i64 x1,.int .i64 s2,.int .i64 n2,.int .i64 x2] 100)=W3 at *;have bC:=aR aM lH;have a4D:=bu Gd lH;have a4E:=kp ((te.o.below lH).base (Nat.le_of_eq Hz2.o.symm));have bs:=a4C.o.under lH;have bn:=yj.o.under lH;obtain ⟨BO,ic,_,_⟩:=bs.two;have y0:W3.cell? ⟨w.heap.size+1,0,none⟩=some (.int .i64 (aj:Nat)):=bn.cell 0;have hgO:w.heap.size+1+1<w1.heap.size:=by have:=Hz1.o;omega
 clear bs bn lH a4C yj Gd aM Hz1 te;go_wp2_with fail;generalize w1.heap.size=gO at *;refine (HL.o _).mono ?_;clear dH BO ic y0 HL;rintro e w4 ⟨rfl,cq⟩;have bH:=aR bC cq;have Lz:=bu a4D cq;have Pf:=bu HBo cq;have WC:=kp (a4E.o.below cq);clear cq bC a4D HBo a4E;by_cases kU:aj+1=nx
 .have hq:decide (aj+1=nx)=true:=decide_eq_true kU;rw [hq] at HQ ⊢
  have WD:=kp (show az ⟨aj,A1,ig,c1,⟨key,child,ac,s0,n0,x0,s1,n1,x1,s2,n2,x2⟩⟩=lS true f (az ⟨aj,nA,ls,nc,⟨key,child,ac,s0,n0,x0,s1,n1,x1,s2,n2,x2⟩⟩) from by
   unfold lS az;dsimp only
   rw [if_pos rfl,BW.o])
  clear kU hq fU;go_upto_region 3 with fail
  have dD:=(aa.cw Pf.o).1;obtain ⟨⟨q0,q1,q2,q3,q4,q5,q6,q7,q8,q9,wQ,wR,wS,wT⟩,fD⟩:=aa.cw Lz.o;obtain ⟨Wf,bW⟩:∃Wf,aK w4 (w.heap.size+1+1) 0 [.int .i64 (aj:Nat),.slice A1 lx c1,.int .i64 (key:Nat),.int .i64 (child:Nat),.int .i64 ac,.int .i64 s0,.int .i64 n0,.int .i64 x0,.int .i64 s1,.int .i64 n1,.int .i64 x1,.int .i64 s2,.int .i64 n2,.int .i64 x2]=Wf:=⟨_,rfl⟩
  have Km:=kp (show Cz Wf (w.heap.size+1+1+1) A1 c1 ig by rw [<-bW];exact Cz.all (by decide) (by decide) _ _ _ _ Lz.o WC.o);have qx:=kp (show Below w.heap.size w Wf by rw [<-bW];exact eU (by omega) _ _ _ bH.o);have dW:=kp (show aa Wf (w.heap.size+1+1) 100 #[.int .i64 (aj:Nat),.slice A1 lx c1,.int .i64 (key:Nat),.int .i64 (child:Nat),.int .i64 ac,.int .i64 s0,.int .i64 n0,.int .i64 x0,.int .i64 s1,.int .i64 n1,.int .i64 x1,.int .i64 s2,.int .i64 n2,.int .i64 x2] by rw [<-bW];exact eO Lz.o _ rfl);have HF:=kp (HQ.o ⟨aj,A1,ig,c1,⟨key,child,ac,s0,n0,x0,s1,n1,x1,s2,n2,x2⟩⟩ Wf (WD.o) (Km.o.node _ _) qx.o);dsimp only at HF;rw [Bw.o] at HF;simp only [aK,Nat.zero_add,Nat.reduceAdd] at bW;go_wp2_with fail;clear q0 q1 q2 q3 q4 q5 q6 q7 q8 q9 wQ wR wS wT;obtain ⟨q0,q1,q2,q3,q4,q5,q6,q7,q8,q9,wQ,wR,wS,wT⟩:=(aa.cw dW.o).1;refine bodyPost_ret (v := .agg #[.int .i64 (aj:Nat),.slice A1 lx c1,.int .i64 (key:Nat),.int .i64 (child:Nat),.int .i64 ac,.int .i64 s0,.int .i64 n0,.int .i64 x0,.int .i64 s1,.int .i64 n1,.int .i64 x1,.int .i64 s2,.int .i64 n2,.int .i64 x2]) (by simp [results,Tryz.results49,go_sem,q0,q1,q2,q3,q4,q5,q6,q7,q8,q9,wQ,wR,wS,wT]) rfl HF.o
 .have hq:decide (aj+1=nx)=false:=decide_eq_false kU;have HT:=kp (fU.o kU);rw [hq] at HQ ⊢
  have WD:=kp (show az ⟨aj,A1,ig.map (xP f),c1,⟨key,f child,ac,s0,n0,x0,s1,n1,x1,s2,n2,x2⟩⟩=lS false f (az ⟨aj,nA,ls,nc,⟨key,child,ac,s0,n0,x0,s1,n1,x1,s2,n2,x2⟩⟩) from by
   unfold lS az;dsimp only;rw [if_neg (by decide),<-BW.o,map_map,map_map]
   rfl)
  have dD:=(aa.cw Pf.o).1;clear kU hq fU;go_wp2_with fail;clear dD
  go_loopw [21] (fun vZ wr=>∃k:Nat,k<=lx/\vZ = .int .i64 (k:Nat)/\aa wr (w.heap.size+1+1) 100 zN/\aa wr gO 100 #[.int .i64 (aj:Nat),.slice A1 lx c1,.int .i64 (key:Nat),.int .i64 (child:Nat),.int .i64 ac,.int .i64 s0,.int .i64 n0,.int .i64 x0,.int .i64 s1,.int .i64 n1,.int .i64 x1,.int .i64 s2,.int .i64 n2,.int .i64 x2]/\Cz wr (w.heap.size+1+1+1) A1 c1 (nS (xP f) k ig)/\Below w.heap.size w wr) (fun vZ _=>lx-(intOf vZ).toNat)
  case atStart=>exact ⟨0,aZ _,rfl,Lz.o,Pf.o,WC.o,bH.o⟩
  case round =>
   have fw:=Hn4.o;clear Lz Pf WC bH;obtain ⟨k,hk,rfl,nL,lH,wP,aC⟩:=hrel;have kR:=kp nL;have uB:=kp lH;have te:=kp wP;have ai:=kp aC;clear nL lH wP aC;by_cases ae:k<lx
   .have cz:k<ig.length:=by rw [Bw.o];exact ae
    obtain ⟨bl,ol,hA,zl,l0⟩:=Row.at_ (gV te.o.row) (k:=k) (by rw [lM,EI];exact cz);rw [getElem_map,LM cz] at l0;have HX0:=kp (show nS (xP f) k ig=(nS (xP f) k ig).set k (ig[k]'cz) from by rw [<-LM (g:=xP f) cz,set_getElem_self]);have HX1:=kp (Zc (g:=xP f) cz);have EA:=kp (show ∀l',((nS (xP f) k ig).set k l')[k]? = some l' from fun l'=>by rw [getElem?_set_self (by rw [EI];exact cz)])
    have a4F:=kp (show ∃l0∈ls,(ig[k]'cz).cs=l0.cs from by
     have:(ig[k]'cz).cs∈ls.map Ll.cs:=by rw [<-BW.o];exact mem_map_of_mem (gM cz)
     obtain ⟨y,hy,e⟩:=mem_map.1 this
     exact ⟨y,hy,e.symm⟩)
    unfold fi at l0;generalize (ig[k]'cz)=l at *;generalize nS (xP f) k ig=X at *;obtain ⟨lA,cs,lc⟩:=l;dsimp only at l0
    have lz:=kp (show cs.length<=1000 from by
     obtain ⟨y,hy,e⟩:=a4F.o;have:=Hl.o y hy;rw [<-e] at this
     exact this)
    have uG:=kp (show ∀x∈cs,∀W,Below w.heap.size w W->Calls Tryz.prog fn (#[.int .i64 x.child]++so) W fun e W'=>e = .returned (.int .i64 (f x.child:Nat))/\W'=W from fun x hx=>by
     obtain ⟨y,hy,e⟩:=a4F.o
     exact HT.o x (.inr ⟨y,hy,by rw [<-e];exact hx⟩))
    obtain ⟨ll,qt⟩:∃ll,cs.length=ll:=⟨_,rfl⟩
    have kQ:=kp qt;rw [qt] at l0;clear qt cz;have hl9:ll<=1000:=by rw [<-kQ.o];exact lz.o
    have td:(0:Int)<=(k:Int):=by omega
    have Bn:(k:Int)<(lx:Int):=by omega
    subst hA;go_wp2_with fail;clear l0
    go_loopw [27] (fun DO wr=>∃j:Nat,j<=ll/\DO = .int .i64 (j:Nat)/\aa wr (w.heap.size+1+1) 100 zN/\aa wr gO 100 #[.int .i64 (aj:Nat),.slice (some ⟨bl,ol,none⟩) lx c1,.int .i64 (key:Nat),.int .i64 (child:Nat),.int .i64 ac,.int .i64 s0,.int .i64 n0,.int .i64 x0,.int .i64 s1,.int .i64 n1,.int .i64 x1,.int .i64 s2,.int .i64 n2,.int .i64 x2]/\Cz wr (w.heap.size+1+1+1) (some ⟨bl,ol,none⟩) c1 (X.set k ⟨lA,nS (vT f) j cs,lc⟩)/\Below w.heap.size w wr) (fun DO _=>ll-(intOf DO).toNat)
    case atStart=>exact ⟨0,aZ _,rfl,kR.o,uB.o,te.o.same HX0.o,ai.o⟩
    case round =>
     clear kR uB te ai;obtain ⟨j,hj,rfl,nL,lH,wP,aC⟩:=hrel;have kR:=kp nL;have uB:=kp lH;have te:=kp wP;have ai:=kp aC;clear nL lH wP aC;by_cases lu:j<ll
     .have fO:j<cs.length:=by rw [kQ.o];exact lu
      have aE:=te.o.own _ (mem_of_getElem? (EA.o _));obtain ⟨g,(hg:lA=some ⟨g,0,none⟩),Jd⟩:=a7' aE (j:=j) (by rw [EI];exact fO);rw [show (nS (vT f) j cs)[j]'(by rw [EI];exact fO)=cs[j]'fO from LM fO] at Jd;have fM:=te.o.put (EA.o _) (x:=cs[j]'fO) (by rw [gE (by rw [EI];exact fO),LM fO]) (show (sG ⟨lA,nS (vT f) j cs,lc⟩).ownBlock=some g by unfold sG;dsimp only;rw [hg];rfl) (f (cs[j]'fO).child);have mG:(nS (vT f) j cs).set j ⟨(cs[j]'fO).key,f (cs[j]'fO).child,(cs[j]'fO).ag⟩=nS (vT f) (j+1) cs:=Zc (g:=vT f) fO;rw [set_set] at fM;dsimp only at fM;rw [mG] at fM;have en:=kp fM;have fz:=abt aE (by show (Value.slice lA _ lc).ownBlock=some g;rw [hg];rfl) (j*12+1);have wz:g≠w.heap.size+1+1:=fun e=>MK aE kR.o (by decide) (by show (Value.slice lA _ lc).ownBlock=some _;rw [hg,e];rfl)
      have lB:g≠gO:=fun e=>MK aE uB.o (by decide) (by show (Value.slice lA _ lc).ownBlock=some _;rw [hg,e];rfl)
      have jB:=(aE.lt g (by show (Value.slice lA _ lc).ownBlock=some g;rw [hg];rfl)).1;have HTj:=kp (uG.o _ (gM fO) wr ai.o);clear fM aE mG;generalize (cs[j]'fO)=x at *;subst hg;have hj0:(0:Int)<=(j:Int):=by omega
      have gw:(j:Int)<(ll:Int):=by omega
      clear fO;go_wp2_with fail;refine HTj.o.mono ?_;rintro e w5 ⟨rfl,rfl⟩;go_wp2_with fail;exact ⟨⟨j+1,by omega,by go_num,(Below.heap_setCell _ _ _ _ (fun e=>wz e.symm)).trans kR.o,(Below.heap_setCell _ _ _ _ (fun e=>lB e.symm)).trans uB.o,en.o,ai.o.setCell (p:=⟨g,j*12+1,none⟩) (by show w.heap.size<=g;omega) _⟩,by simp [intOf];omega⟩
     .obtain rfl:j=ll:=by omega
      go_wp2_with fail;refine ⟨⟨k+1,by omega,by go_num,kR.o,uB.o,te.o.same ?_,ai.o⟩,by simp [intOf];omega⟩;rw [a0x kQ.o.symm,<-HX1.o];rfl
   .obtain rfl:k=lx:=by omega
    have ael:=kp (te.o.same (a0x Bw.o.symm));have Cp:=kp (HT.o _ (.inl rfl) wr ai.o);dsimp only at Cp;obtain ⟨dD,fD⟩:=aa.cw uB.o;go_wp2_with fail;refine Cp.o.mono ?_;rintro e w5 ⟨rfl,rfl⟩;have a4G:=kp (uB.o.set 3 (.int .i64 (f child:Nat)));have av:w.heap.size+1+1≠gO:=by omega
    have a4H:=kp ((Below.heap_setCell w5 ⟨gO,3,none⟩ (.int .i64 (f child:Nat)) _ av).trans kR.o);have aem:=kp (ael.o.box (i:=3) uB.o (by decide) (by decide) (.int .i64 (f child:Nat)));have eI:=kp (ai.o.setCell (p:=⟨gO,3,none⟩) (by show w.heap.size<=gO;omega) (.int .i64 (f child:Nat)));go_upto_region 14 with fail
    generalize w5.setCell ⟨gO,3,none⟩ (.int .i64 (f child:Nat))=W5 at *;clear dD fD;have aen:=kp (show aa W5 gO 100 #[.int .i64 (aj:Nat),.slice A1 k c1,.int .i64 (key:Nat),.int .i64 ((f child:Nat):Nat),.int .i64 ac,.int .i64 s0,.int .i64 n0,.int .i64 x0,.int .i64 s1,.int .i64 n1,.int .i64 x1,.int .i64 s2,.int .i64 n2,.int .i64 x2] from a4G.o);have Ls:=kp (show aa W5 (w.heap.size+1+1) 100 zN from a4H.o);clear a4G a4H;have dD:=(aa.cw aen.o).1;obtain ⟨⟨q0,q1,q2,q3,q4,q5,q6,q7,q8,q9,wQ,wR,wS,wT⟩,fD⟩:=aa.cw Ls.o;obtain ⟨Wf,bW⟩:∃Wf,aK W5 (w.heap.size+1+1) 0 [.int .i64 (aj:Nat),.slice A1 k c1,.int .i64 (key:Nat),.int .i64 ((f child:Nat):Nat),.int .i64 ac,.int .i64 s0,.int .i64 n0,.int .i64 x0,.int .i64 s1,.int .i64 n1,.int .i64 x1,.int .i64 s2,.int .i64 n2,.int .i64 x2]=Wf:=⟨_,rfl⟩
    have Km:=kp (show Cz Wf (w.heap.size+1+1+1) A1 c1 (ig.map (xP f)) by rw [<-bW];exact Cz.all (by decide) (by decide) _ _ _ _ Ls.o aem.o);have qx:=kp (show Below w.heap.size w Wf by rw [<-bW];exact eU (by omega) _ _ _ eI.o);have dW:=kp (show aa Wf (w.heap.size+1+1) 100 #[.int .i64 (aj:Nat),.slice A1 k c1,.int .i64 (key:Nat),.int .i64 ((f child:Nat):Nat),.int .i64 ac,.int .i64 s0,.int .i64 n0,.int .i64 x0,.int .i64 s1,.int .i64 n1,.int .i64 x1,.int .i64 s2,.int .i64 n2,.int .i64 x2] by rw [<-bW];exact eO Ls.o _ rfl);have HF:=kp (HQ.o ⟨aj,A1,ig.map (xP f),c1,⟨key,f child,ac,s0,n0,x0,s1,n1,x1,s2,n2,x2⟩⟩ Wf WD.o (Km.o.node _ _) qx.o);dsimp only at HF;rw [lM,Bw.o] at HF;simp only [aK,Nat.zero_add,Nat.reduceAdd] at bW;go_wp2_with fail;clear q0 q1 q2 q3 q4 q5 q6 q7 q8 q9 wQ wR wS wT;obtain ⟨q0,q1,q2,q3,q4,q5,q6,q7,q8,q9,wQ,wR,wS,wT⟩:=(aa.cw dW.o).1;refine bodyPost_ret (v := .agg #[.int .i64 (aj:Nat),.slice A1 k c1,.int .i64 (key:Nat),.int .i64 ((f child:Nat):Nat),.int .i64 ac,.int .i64 s0,.int .i64 n0,.int .i64 x0,.int .i64 s1,.int .i64 n1,.int .i64 x1,.int .i64 s2,.int .i64 n2,.int .i64 x2]) (by simp [results,Tryz.results49,go_sem,q0,q1,q2,q3,q4,q5,q6,q7,q8,q9,wQ,wR,wS,wT]) rfl HF.o
end Go.Proofs.YtjopcamkclndlaaGreat.Tc
