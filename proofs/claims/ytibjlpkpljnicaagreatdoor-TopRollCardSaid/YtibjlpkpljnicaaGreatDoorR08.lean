/- Parts. -/
import Derived.Test.YtibjlpkpljnicaaGreatDoorRows
set_option maxRecDepth 100000
set_option maxHeartbeats 8000000
set_option linter.all false
namespace Go.Proofs.YtibjlpkpljnicaaGreatDoor
namespace Crc
def oI:Nat:=2197175160
def step(n:Nat):Nat:=n / 2 ^^^ (n % 2)*oI
def steps:Nat->Nat->Nat
 |0,n=>n
 |k+1,n=>steps k (step n)
def xM{a b:Nat}(d:a<4294967296)(c:b<4294967296):a ^^^ b<4294967296:=Nat.xor_lt_two_pow (n:=32) d c
def Qd{n:Nat}(h:n<4294967296):step n<4294967296:=by
 apply xM (by omega);have:n % 2<2:=Nat.mod_lt _ (by decide);unfold oI;omega
def rT(k:Nat){n:Nat}(h:n<4294967296):steps k n<4294967296:=by
 induction k generalizing n with
 |zero=>exact h
 |succ k b=>exact b (Qd h)
def EE(j k n:Nat):steps (j+k) n=steps k (steps j n):=by
 induction j generalizing n with
 |zero=>simp[steps]
 |succ j b=>rw[Nat.add_right_comm];exact b (step n)
def Rz(a b:Nat):(a ^^^ b) / 2=a / 2 ^^^ b / 2:=Nat.xor_div_two_pow (n:=1)
def RA(a b:Nat):(a ^^^ b) % 2=a % 2 ^^^ b % 2:=Nat.xor_mod_two_pow (n:=1)
def L9(a b:Nat)(c:a<2)(d:b<2):(a ^^^ b)*oI=a*oI ^^^ b*oI:=by
 have h0:a=0\/a=1:=by omega
 have h1:b=0\/b=1:=by omega
 rcases h0 with rfl|rfl<;>rcases h1 with rfl|rfl<;>simp
def Qe(a b:Nat):step (a ^^^ b)=step a ^^^ step b:=by
 unfold step;rw[Rz,RA,L9 _ _ (Nat.mod_lt _ (by decide)) (Nat.mod_lt _ (by decide))];ac_rfl
def Qg(k a b:Nat):steps k (a ^^^ b)=steps k a ^^^ steps k b:=by
 induction k generalizing a b with
 |zero=>rfl
 |succ k c=>simp only[steps,Qe,c]
def Qc(m:Nat):step (m*2)=m:=by
 unfold step;rw[Nat.mul_div_cancel _ (by decide),Nat.mul_mod_left];simp
def Qf(k m:Nat):steps k (m*2 ^ k)=m:=by
 induction k generalizing m with
 |zero=>simp[steps]
 |succ k b=>
  simp only[steps];rw[Nat.pow_succ,<-Nat.mul_assoc,Qc];exact b m
def Q7(n:Nat):n=(n / 16)*2 ^ 4 ^^^ n % 16:=by
 have h:=Nat.two_pow_add_eq_or_of_lt (i:=4) (b:=n % 16) (Nat.mod_lt _ (by decide)) (n / 16);have hx:(n / 16)*2 ^ 4 ^^^ n % 16=2 ^ 4*(n / 16) ||| n % 16:=by
  apply Nat.eq_of_testBit_eq;intro i;rw[Nat.testBit_xor,Nat.testBit_or,Nat.mul_comm,Nat.testBit_two_pow_mul];by_cases hi:4<=i
  .have:(n % 16).testBit i=false:=Nat.testBit_lt_two_pow (Nat.lt_of_lt_of_le (Nat.mod_lt _ (by decide)) (Nat.pow_le_pow_right (n:=2) (by decide) hi));simp[hi,this]
  .simp[hi]
 rw[hx,<-h];omega
def BB(n:Nat):n / 16 ^^^ steps 4 (n % 16)=steps 4 n:=by
 conv=>rhs;rw[Q7 n];rw[Qg,Qf]
def one(n:Nat)(b:UInt8):Nat:=steps 8 (n ^^^ b.toNat)
def run(n:Nat)(l:List UInt8):Nat:=l.foldl one n
def inv(n:Nat):Nat:=4294967295-n
def more(sum:Nat)(l:List UInt8):Nat:=inv (run (inv sum) l)
def wK(b:UInt8):b.toNat<256:=b.toNat_lt
def Mn{n:Nat}(b:UInt8)(h:n<4294967296):one n b<4294967296:=rT 8 (xM h (by have:=wK b;omega))
def yJ{n:Nat}(l:List UInt8)(h:n<4294967296):run n l<4294967296:=by
 induction l generalizing n with
 |nil=>exact h
 |cons b l c=>exact c (Mn b h)
def tF(n:Nat):inv n<4294967296:=by unfold inv;omega
def inv_inv{n:Nat}(h:n<4294967296):inv (inv n)=n:=by unfold inv;omega
def pT(s:Nat)(l:List UInt8):more s l<4294967296:=tF _
def Pd(n:Nat)(a b:List UInt8):run n (a++b)=run (run n a) b:=by simp[run]
def L5(s:Nat)(a b:List UInt8):more (more s a) b=more s (a++b):=by
 unfold more;rw[inv_inv (yJ a (tF s)),Pd]
def Pm(n:Nat)(l:List UInt8)(b:UInt8):run n (l++[b])=one (run n l) b:=by simp[run]
end Crc
end Go.Proofs.YtibjlpkpljnicaaGreatDoor
