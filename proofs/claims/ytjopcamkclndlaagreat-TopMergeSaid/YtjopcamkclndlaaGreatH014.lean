/- Parts of a proof. -/
import Derived.Test.YtjopcamkclndlaaGreatH013
import Derived.Deep.CutBlock
import Derived.Deep.CutRange
set_option linter.unusedVariables false
set_option linter.unusedSimpArgs false
set_option maxRecDepth 100000
set_option maxHeartbeats 8000000
namespace Go.Proofs.YtjopcamkclndlaaGreat.Tc
open List Go.RowKit Base
structure Oc where
 B:Nat
 go:Nat
 As:OA
 xs:List Fa
 cs:Nat
 m:Nat
 most:Nat
def Oc.X (o:Oc):List LN:=o.xs.map Fa.keys
structure tI (X:List LN) (m most:Nat) (ns:List aI):Prop where
 n1:1<=X.length
 n16:X.length<=16
 m1:1<=m
 m3:m<=3
 len:ns.length<=most
 MR:most<=1000000
 each:∀ (i:Nat) (n:aI),ns[i]? = some n->∃x,X[n.aj]? = some x/\yK (decide (n.aj+1=X.length)) x m n/\(∀l∈n.lists,l.length<=1000)/\(n.aj+1=X.length\/∀c∈di n,c.child<i/\∃n',ns[c.child]? = some n'/\n'.aj=n.aj+1)
structure Oc.Dy (o:Oc) (w:World) (F:Nat->Prop) (An:OA) (cn:Nat) (nds:List Nd):Prop where
 line:o.B<=w.heap.size
 low:o.go<o.B
 fo:F o.go
 dV:∀k,F k->k<w.heap.size
 vy:aa w o.go 160 (im o.As o.xs.length o.cs o.m An nds.length cn o.most)
 shape:ep w o.B o.As o.xs
 vL:∀k,ir o.As o.xs k->¬F k
 nodes:iR w o.B (.slice An nds.length cn) nds
 kY:∀k,(Value.slice An nds.length cn).ownBlock=some k->F k
 kJ:∀n∈nds,∀k,pQ n k->F k
section
variable {o:Oc} {w w' W w7:World} {F F':Nat->Prop} {An cX:OA} {cn cY:Nat} {nds:List Nd} {n n':Nd}
theorem Oc.Dy.pO (h:o.Dy w F An cn nds) (hk:Kept F w w') (hs:∀k,ir o.As o.xs k->w'.heap[k]? = w.heap[k]?):o.Dy w' F An cn nds where
 line:=aT h.line hk.size
 low:=h.low
 fo:=h.fo
 dV:=fun k hf=>dL (h.dV k hf) hk.size
 vy:=(hk.block o.go h.fo h.vy.lt).trans h.vy
 shape:=h.shape.same hs
 vL:=h.vL
 nodes:=⟨oL h.nodes.1 (fun k hv=>hk.block k (h.kY k hv) (h.nodes.1.lt k hv).2),fun n hn=>⟨⟨zc (h.nodes.2 n hn).1.1 hk.size (fun k hf=>hk.block k (h.kJ n hn k (.inl hf)) (h.dV k (h.kJ n hn k (.inl hf)))),
  fun l hl=>zc ((h.nodes.2 n hn).1.2 l hl) hk.size (fun k hf=>hk.block k (h.kJ n hn k (.inr ⟨l,hl,hf⟩)) (h.dV k (h.kJ n hn k (.inr ⟨l,hl,hf⟩))))⟩,(h.nodes.2 n hn).2⟩⟩
 kY:=h.kY
 kJ:=h.kJ
theorem Oc.Dy.cW (h:o.Dy w F An cn nds) {k:Nat} (hk:ir o.As o.xs k):k<o.B:=h.shape.cW hk
theorem Oc.Dy.below (h:o.Dy w F An cn nds) (hb:Below w.heap.size w w'):o.Dy w' F An cn nds:=h.pO (Kept.below hb) (fun k hk=>hb.block k (dL (h.cW hk) h.line))
theorem Oc.Dy.wide (h:o.Dy w F An cn nds) (hF:∀k,F k->F' k) (h2:∀k,F' k->k<w.heap.size) (h3:∀k,ir o.As o.xs k->¬F' k):o.Dy w F' An cn nds :=
 ⟨h.line,h.low,hF _ h.fo,h2,h.vy,h.shape,h3,h.nodes,fun k hk=>hF k (h.kY k hk),fun n hn k hk=>hF k (h.kJ n hn k hk)⟩
theorem Oc.Dy.more (h:o.Dy W F An cn nds) (ho:iR w7 o.B (.slice cX (nds.length+1) cY) (nds++[n'])) (ha:aa w7 o.go 160 (im o.As o.xs.length o.cs o.m cX (nds.length+1) cY o.most))
 (TK:(Value.slice cX (nds.length+1) cY).ownBlock=(Value.slice An nds.length cn).ownBlock\/∃k,(Value.slice cX (nds.length+1) cY).ownBlock=some k/\W.heap.size<=k) (oC:kb W.heap.size n') (ht:bK (fun k=>k=o.go\/isRow (.slice An nds.length cn) k) W w7):o.Dy w7 (more F W w7) cX cY (nds++[n']):=by
 have aX:(nds++[n']).length=nds.length+1:=by rw [aS];rfl
 have fg:∀k,isRow (.slice An nds.length cn) k->o.B<=k:=fun k hk=>(h.nodes.1.lt k hk).1
 refine ⟨aT h.line ht.size,h.low,.inl h.fo,fun k hk => ?_,by rw [aX];exact ha,h.shape.same (fun k hk => ?_),fun k hk hf => ?_,by rw [aX];exact ho,fun k hk => ?_,fun n hn k hk => ?_⟩
 .rcases hk with hk | ⟨_,hk⟩
  .exact dL (h.dV k hk) ht.size
  .exact hk
 .have ae:=h.cW hk
  exact ht.block k (dL ae h.line) (fun e=>by
   rcases e with e | e
   .exact h.vL k hk (e▸h.fo)
   .have:=fg k e;omega)
 .rcases hf with hf | ⟨hf,_⟩
  .exact h.vL k hk hf
  .have:=h.cW hk;have:=h.line;omega
 .rw [aX] at hk;rcases TK with hl | ⟨j,hl,hj⟩
  .rw [hl] at hk;exact .inl (h.kY k hk)
  .have:=(ho.1.lt k hk).2;rw [hl] at hk;injection hk with hk
   exact .inr ⟨by omega,this⟩
 .rcases mem_append.1 hn with hn | hn
  .exact .inl (h.kJ n hn k hk)
  .have iM:=ho.2 n (mem_append_right _ hn);rw [mem_singleton.1 hn] at hk iM;rcases hk with hk | ⟨l,hl,hk⟩
   .have:=Row.cW iM.1.1.1 hk;obtain ⟨av,off,e⟩:=hk;exact .inr ⟨oC.1 k off e av,this⟩
   .have:=Row.cW (iM.1.2 l hl).1 hk;obtain ⟨av,off,e⟩:=hk;exact .inr ⟨oC.2 l hl k off e av,this⟩
def a0m (o:Oc) (F:Nat->Prop) (An:OA) (cn:Nat) (nds:List Nd) (pn:aI) (W:World) (e:Ending) (w7:World):Prop :=
 ∃ (cX:OA) (cY:Nat) (n':Nd),e = .returned (.tuple #[.int .i64 nds.length,.int .i64 0])/\az n'=pn/\o.Dy w7 (more F W w7) cX cY (nds++[n'])/\bK (fun k=>k=o.go\/isRow (.slice An nds.length cn) k) W w7
theorem a0N {ns ys:List aI} (hf:tI o.X o.m o.most ns) (h:o.Dy W F An cn nds) (hn:dp W W.heap.size n) (hp:ns=nds.map az++az n::ys) :
 Calls Tryz.prog 78 #[.pointer (some ⟨o.go,0,none⟩),.agg (bG n)] W (a0m o F An cn nds (az n) W):=by
 have aX:o.X.length=o.xs.length:=by unfold Oc.X;rw [lM]
 have hi:ns[nds.length]? = some (az n):=by
  rw [hp,getElem?_append_right (by rw [lM];exact ah _),lM,Nat.sub_self];rfl
 have oF:nds.length<ns.length:=(bS hi).1;have oV:=hf.len;have L9:=hf.MR;obtain ⟨x,h1,h2,h3,h4⟩:=hf.each _ _ hi;rw [aX] at h2 h4;have hd:n.aj<o.xs.length:=by rw [<-aX];exact (bS h1).1
 have hx:(o.xs[n.aj]'hd).keys=x:=by
  have:o.X[n.aj]? = some (o.xs[n.aj]'hd).keys:=by unfold Oc.X;rw [getElem?_map,gE hd];rfl
  have e:(az n).aj=n.aj:=rfl;rw [e,this] at h1;injection h1
 refine (a04 o.B o.go o.As An o.xs o.cs o.m cn o.most nds n W h.low h.line h.vy (h.shape.more h.line) h.nodes hn (by rw [<-aX];exact hf.n16) hf.m1 hf.m3 (by omega) L9 hd (by rw [hx];exact h2) (fun l hl=>h3 l.cs (mem_map_of_mem hl)) ?_).mono ?_
 .rcases h4 with h4 | h4
  .exact .inl h4
  .refine .inr (fun c hc => ?_);have mu:c∈di (az n):=by
    unfold Bf at hc;unfold di az;simpa [flatMap_def] using hc
   obtain ⟨h5,n',h6,h7⟩:=h4 c mu;have Gi:c.child<nds.length:=h5;rw [hp,getElem?_append_left (by rw [lM];exact Gi),getElem?_map,gE Gi] at h6;injection h6 with h6
   refine ⟨nds[c.child],gE Gi,?_⟩;rw [<-h6] at h7;exact h7
 .rintro e w7 ⟨Ol,_⟩;obtain ⟨yq,yr,n7,rfl,k1,k2,k3,k4,k5,k6⟩:=Ol (by omega);exact ⟨yq,yr,n7,rfl,k1,h.more k2 k3 k4 k5 k6,k6⟩
end
structure Mc extends Oc where
 w0:World
 gm:Nat
 gp:Nat
 ga:Nat
 gb:Nat
 na:List aI
 nb:List aI
 ns:List aI
structure Mc.Ok (c:Mc):Prop where
 su:jJ c.X c.m c.na
 okB:jJ c.X c.m c.nb
 N1:ft c.w0 c.ga c.X c.m c.na
 Rc:ft c.w0 c.gb c.X c.m c.nb
 LL:∀n∈c.na,∀x∈di n,eX x.ag
 M8:∀n∈c.nb,∀x∈di n,eX x.ag
 fin:tI c.X c.m c.most c.ns
 m0:c.w0.heap.size<=c.gm
 o0:c.w0.heap.size<=c.go
 p0:c.w0.heap.size<=c.gp
 mB:c.gm<c.B
 oB:c.go<c.B
 pB:c.gp<c.B
 mo:c.gm≠c.go
 mp:c.gm≠c.gp
 op:c.go≠c.gp
def Mc.sF (c:Mc) (sm:dU):Prop:=∃ys,c.ns=sm.nodes++ys
structure Mc.Dy (c:Mc) (w:World) (F:Nat->Prop) (An:OA) (cn:Nat) (nds:List Nd) (sm:dU):Prop where
 o:c.toOc.Dy w F An cn nds
 base:Below c.w0.heap.size c.w0 w
 fF:∀k,F k->c.w0.heap.size<=k
 fm:F c.gm
 fp:F c.gp
 kg:aa w c.gm 179 #[.pointer (some ⟨c.ga,0,none⟩),.pointer (some ⟨c.gb,0,none⟩),.pointer (some ⟨c.go,0,none⟩),.map (some c.gp),.int .i64 0]
 plain:nds.map az=sm.nodes
 len:sm.pairs.length=sm.nodes.length
 met:vM w c.gp sm.pairs
structure Mv (F0:Nat->Prop) (w w':World) (F:Nat->Prop):Prop where
 bU:bK F0 w w'
 sub:∀k,F k->more F0 w w' k
 sup:∀k,F0 k->F k
section
variable {c:Mc} {F0 F F1:Nat->Prop} {w w' w1:World} {An:OA} {cn:Nat} {nds:List Nd} {sm:dU}
theorem Mv.start (F:Nat->Prop) (w:World):Mv F w w F:=⟨bK.refl _ _,fun k hk => .inl hk,fun k hk=>hk⟩
theorem Mv.below (h:Mv F0 w w' F) (hb:Below w'.heap.size w' w1):Mv F0 w w1 F:=⟨h.bU.trans (bK.below hb),fun k hk=>sB (ah _) hb.size (h.sub k hk),h.sup⟩
theorem Mv.trans (h:Mv F0 w w' F) (k:Mv F w' w1 F1):Mv F0 w w1 F1 :=
 ⟨⟨k.bU.os.trans h.bU.os,k.bU.tape.trans h.bU.tape,k.bU.output.trans h.bU.output,aT h.bU.size k.bU.size,fun i hi hp=>(k.bU.block i (dL hi h.bU.size) (fun hf=>by
  rcases h.sub i hf with h1 | ⟨h1,_⟩
  .exact hp h1
  .omega)).trans (h.bU.block i hi hp)⟩,fun i hi=>by
  rcases k.sub i hi with h1 | ⟨h1,h2⟩
  .exact sB (ah _) k.bU.size (h.sub i h1)
  .exact .inr ⟨aT h.bU.size h1,h2⟩,fun i hi=>k.sup i (h.sup i hi)⟩
theorem Mv.of (h:bK F w w'):Mv F w w' (more F w w'):=⟨h,fun k hk=>hk,fun k hk => .inl hk⟩
theorem Mv.app {v v':Value} (h:Mv F0 w w' F) (ha:App w' w1 v v') (hv:∀k,v.ownBlock=some k->w.heap.size<=k):Mv F0 w w1 F :=
 ⟨Yf h.bU ha hv,fun k hk=>sB (ah _) ha.grown.size (h.sub k hk),h.sup⟩
theorem Mv.aK (h:Mv F0 w w' F) {g:Nat} (hg:w.heap.size<=g) (o:Nat) (vs:LV):Mv F0 w (aK w' g o vs) F :=
 have k:Kept (fun _=>False) w' (Tc.aK w' g o vs):=EF id vs w' o
 ⟨IN hg _ _ _ h.bU,fun i hi=>sB (ah _) k.size (h.sub i hi),h.sup⟩
theorem Mv.set (h:Mv F0 w w' F) {g o:Nat} (hg:w.heap.size<=g) (v:Value):Mv F0 w (w'.setCell ⟨g,o,none⟩ v) F:=h.aK hg o [v]
theorem Mv.still (h:Mv F0 w w' F) {k:Nat} (hk:k<w.heap.size) (hn:¬F0 k):w'.heap[k]? = w.heap[k]? := h.bU.block k hk hn
theorem Mv.off (h:Mv F0 w w' F) {k:Nat} (hk:k<w.heap.size) (hn:¬F0 k):¬F k:=fun hf=>by
 rcases h.sub k hf with h1 | ⟨h1,_⟩
 .exact hn h1
 .omega
theorem Mv.row (h:Mv F0 w w' F) {A:OA} {vs:LV} (hr:Row w w.heap.size A vs) (hn:∀k,eo A vs k->¬F0 k):Row w' w'.heap.size A vs/\∀k,eo A vs k->¬F k :=
 ⟨(pL hr (fun k hk=>h.still (Row.cW hr hk) (hn k hk))).more h.bU.size,fun k hk=>h.off (Row.cW hr hk) (hn k hk)⟩
theorem Mv.box (h:Mv F0 w w' F) {g:Nat} {t:TypeId} {cs:AV} (hb:aa w g t cs) (hn:¬F0 g):aa w' g t cs/\¬F g:=⟨(h.still hb.lt hn).trans hb,h.off hb.lt hn⟩
theorem iB.mv (h:Mv F0 w w' F) {B:Nat} {v:Value} {ls:List Ll} (hl:iB w F0 B v ls):iB w' F B v ls:=hl.same h.bU.size (fun k hk hn=>h.still hk hn) (fun k hk hn=>h.off hk hn)
theorem jG.mv (h:Mv F0 w w' F) {B:Nat} {v:Value} {cs:List Cl} (hc:jG w F0 B v cs):jG w' F B v cs :=
 ⟨oL hc.own (fun k hk=>h.still (hc.own.lt k hk).2 (hc.off k hk)),fun k hk=>h.off (hc.own.lt k hk).2 (hc.off k hk)⟩
theorem Qu {n:Nat} {w0:World} (hb:Below n w0 w) (ht:bK F w w') (hF:∀k,F k->n<=k) (hn:n<=w.heap.size):Below n w0 w' :=
 ⟨ht.os.trans hb.os,ht.tape.trans hb.tape,ht.output.trans hb.output,aT hb.size ht.size,fun i hi=>(ht.block i (dL hi hn) (fun hf=>by have:=hF i hf;omega)).trans (hb.block i hi)⟩
theorem Mc.Dy.hi (h:c.Dy w F An cn nds sm):c.w0.heap.size<=w.heap.size:=h.base.size
theorem Mc.Dy.pO (h:c.Dy w F An cn nds sm) (hm:Mv F w w' F) (hk:Kept F w w'):c.Dy w' F An cn nds sm :=
 ⟨h.o.pO hk (fun k hf=>hm.still (dL (h.o.cW hf) h.o.line) (h.o.vL k hf)),Qu h.base hm.bU h.fF h.hi,h.fF,h.fm,h.fp,(hk.block _ h.fm h.kg.lt).trans h.kg,h.plain,h.len,h.met.same (hk.block _ h.fp h.met.lt)⟩
theorem Mc.Dy.below (h:c.Dy w F An cn nds sm) (hb:Below w.heap.size w w'):c.Dy w' F An cn nds sm:=h.pO ((Mv.start F w).below hb) (Kept.below hb)
theorem Mc.Dy.aK (h:c.Dy w F An cn nds sm) {g:Nat} (hg:c.w0.heap.size<=g) (hB:c.B<=g) (hn:¬F g) (o:Nat) (vs:LV):c.Dy (aK w g o vs) F An cn nds sm:=by
 have hk:Kept F w (Tc.aK w g o vs):=EF hn vs w o;have av:∀k,k≠g->(Tc.aK w g o vs).heap[k]? = w.heap[k]? := fun k jF=>gu jF vs w o
 have hb:Below c.w0.heap.size w (Tc.aK w g o vs):=eU hg vs w o (aq _ _);exact ⟨h.o.pO hk (fun k hf=>av k (fun e=>by have:=h.o.cW hf;omega)),h.base.trans hb,h.fF,h.fm,h.fp,(hk.block _ h.fm h.kg.lt).trans h.kg,h.plain,h.len,h.met.same (hk.block _ h.fp h.met.lt)⟩
theorem Mc.Dy.app {v v':Value} (h:c.Dy w F An cn nds sm) (ha:App w w' v v') (hv:∀k,v.ownBlock=some k->c.B<=k/\c.w0.heap.size<=k/\¬F k):c.Dy w' F An cn nds sm:=by
 have hk:Kept F w w':=Kept.app ha (fun k hk=>(hv k hk).2.2);have hb:Below c.w0.heap.size c.w0 w':=⟨ha.grown.os.trans h.base.os,ha.grown.tape.trans h.base.tape,ha.grown.output.trans h.base.output,aT h.base.size ha.grown.size,fun i hi=>(ha.de (dL hi h.hi) (fun e=>by have:=(hv i e).2.1;omega)).trans (h.base.block i hi)⟩
 exact ⟨h.o.pO hk (fun k hf=>ha.de (dL (h.o.cW hf) h.o.line) (fun e=>by have:=(hv k e).1;have:=h.o.cW hf;omega)),hb,h.fF,h.fm,h.fp,(hk.block _ h.fm h.kg.lt).trans h.kg,h.plain,h.len,h.met.same (hk.block _ h.fp h.met.lt)⟩
theorem Mc.Dy.wide (h:c.Dy w F An cn nds sm) (hF:∀k,F k->F1 k) (h2:∀k,F1 k->k<w.heap.size) (h3:∀k,ir c.As c.xs k->¬F1 k) (h4:∀k,F1 k->c.w0.heap.size<=k):c.Dy w F1 An cn nds sm :=
 ⟨h.o.wide hF h2 h3,h.base,h4,hF _ h.fm,hF _ h.fp,h.kg,h.plain,h.len,h.met⟩
structure xw (c:Mc) (F:Nat->Prop) (w w':World) (An:OA) (cn:Nat) (nds:List Nd) (sm:dU):Prop where
 dy:c.Dy w' (more F w w') An cn nds sm
 bU:bK F w w'
theorem Mv.uL (hm:Mv F0 w w' F) (h:c.Dy w' F An cn nds sm) (hB:c.B<=w.heap.size) (h0:c.w0.heap.size<=w.heap.size) (hf:∀k,ir c.As c.xs k->¬F0 k) (hF:∀k,F0 k->k<w.heap.size/\c.w0.heap.size<=k):xw c F0 w w' An cn nds sm:=by
 refine ⟨h.wide hm.sub (fun k hk => ?_) (fun k hk hn => ?_) (fun k hk => ?_),hm.bU⟩
 .rcases hk with hk | ⟨_,hk⟩
  .exact dL (hF k hk).1 hm.bU.size
  .exact hk
 .rcases hn with hn | ⟨hn,_⟩
  .exact hf k hk hn
  .have:=h.o.cW hk;omega
 .rcases hk with hk | ⟨hk,_⟩
  .exact (hF k hk).2
  .omega
theorem xw.mv (h:xw c F w w' An cn nds sm):Mv F w w' (more F w w'):=Mv.of h.bU
end
abbrev hC (x:Cl) (b:Bool):AV:=#[.int .i64 x.key,.int .i64 x.child,.int .i64 x.ag.c,.int .i64 x.ag.s0,.int .i64 x.ag.n0,.int .i64 x.ag.x0,.int .i64 x.ag.s1,.int .i64 x.ag.n1,.int .i64 x.ag.x1,.int .i64 x.ag.s2,.int .i64 x.ag.n2,.int .i64 x.ag.x2,.bool b]
def hO (x:Cl) (b:Bool):Option Cl:=if b then some x else none
theorem ZZ {x:Cl} {b:Bool} (h:b=false->x=cO):CL (hO x b)=x.key:=by
 cases b
 .rw [h rfl];rfl
 .rfl
theorem YN {x:Cl} {b:Bool} (h:b=false->x=cO):xu (hO x b)=x.ag:=by
 cases b
 .rw [h rfl];rfl
 .rfl
theorem aa.rJ {w:World} {g:Nat} {t:TypeId} {a0 a1 a2 a3 a4 a5 a6 a7 a8 a9 dS iK DK:Value} (h:aa w g t #[a0,a1,a2,a3,a4,a5,a6,a7,a8,a9,dS,iK,DK]):(w.cell? ⟨g,0,none⟩=some a0/\w.cell? ⟨g,1,none⟩=some a1/\w.cell? ⟨g,2,none⟩=some a2/\w.cell? ⟨g,3,none⟩=some a3/\w.cell? ⟨g,4,none⟩=some a4/\w.cell? ⟨g,5,none⟩=some a5/\w.cell? ⟨g,6,none⟩=some a6/\w.cell? ⟨g,7,none⟩=some a7/\w.cell? ⟨g,8,none⟩=some a8/\w.cell? ⟨g,9,none⟩=some a9/\w.cell? ⟨g,10,none⟩=some dS/\w.cell? ⟨g,11,none⟩=some iK/\w.cell? ⟨g,12,none⟩=some DK)/\(w.frozen? ⟨g,0,none⟩=false/\w.frozen? ⟨g,1,none⟩=false/\w.frozen? ⟨g,2,none⟩=false/\w.frozen? ⟨g,3,none⟩=false/\w.frozen? ⟨g,4,none⟩=false/\w.frozen? ⟨g,5,none⟩=false/\w.frozen? ⟨g,6,none⟩=false/\w.frozen? ⟨g,7,none⟩=false/\w.frozen? ⟨g,8,none⟩=false/\w.frozen? ⟨g,9,none⟩=false/\w.frozen? ⟨g,10,none⟩=false/\w.frozen? ⟨g,11,none⟩=false/\w.frozen? ⟨g,12,none⟩=false) :=
 ⟨⟨h.cell 0,h.cell 1,h.cell 2,h.cell 3,h.cell 4,h.cell 5,h.cell 6,h.cell 7,h.cell 8,h.cell 9,h.cell 10,h.cell 11,h.cell 12⟩,h.free 0,h.free 1,h.free 2,h.free 3,h.free 4,h.free 5,h.free 6,h.free 7,h.free 8,h.free 9,h.free 10,h.free 11,h.free 12⟩
theorem a0c (x:Cl) (b:Bool) (w:World):Calls Tryz.prog 156 #[.agg (hC x b)] w fun e w'=>e = .returned (.int .i64 (fY (hO x b)))/\Below w.heap.size w w':=by
 have au:=(aq w.heap.size w).alloc (ah _) (.cells (hC x b) 237);have HB:=kp (aa.new w 237 (hC x b));have ay:=kp au;clear au;have zD:=(aa.rJ HB.o).1;clear HB;cases b
 all_goals
  go_enter Tryz.func156,Tryz.ntmps156;go_wp2_with fail;go_ret;exact ⟨rfl,ay.o⟩
def IM (p:aI) (w:World) (e:Ending) (w':World):Prop:=∃n:Nd,e = .returned (.agg (bG n))/\az n=p/\dp w' w'.heap.size n/\(kb w.heap.size n/\∀l∈n.ls,l.cs.length<=l.c)/\Below w.heap.size w w'
theorem a5H {X:List aI} {n:Nat} (h:n<X.length):X[n]? = some (cL X (n:Int)):=by
 unfold cL;rw [if_neg (by omega),Int.toNat_natCast,gE h];rfl
theorem a0L {X:List LN} {m ga:Nat} {ns:List aI} {w:World} (h:ft w ga X m ns) (ho:jJ X m ns) {i:Int} (hi:rE ns i):Calls Tryz.prog 125 #[.pointer (some ⟨ga,0,none⟩),.int .i64 i] w (IM (cL ns i) w):=by
 have HQ:=kp (show ∀ (n:Nd) w',az n=cL ns i->dp w' w'.heap.size n->(kb w.heap.size n/\∀l∈n.ls,l.cs.length<=l.c)->Below w.heap.size w w'->IM (cL ns i) w (.returned (.agg (bG n))) w' from fun n w' h1 h2 h3 h4=>⟨n,rfl,h1,h2,h3,h4⟩);have au:=(aq w.heap.size w).alloc (ah _) (.cells zN 100);have cQ:=kp (aa.new w 100 zN);have ay:=kp au;have H1:=kp (h.below au);generalize hQ:IM (cL ns i) w=Q at *;clear hQ au h;generalize dj:w.alloc (.cells zN 100)=W0 at *;obtain ⟨⟨z0,z1,z2,z3,z4,z5,z6,z7,z8,z9,iX,iY,rh,ri⟩,fD⟩:=aa.cw cQ.o;rcases hi with rfl | ⟨n,rfl,hn⟩
 .obtain ⟨Wf,bW⟩:∃Wf,aK W0 w.heap.size 0 [.int .i64 0,.slice none 0 0,.int .i64 0,.int .i64 0,.int .i64 0,.int .i64 0,.int .i64 0,.int .i64 0,.int .i64 0,.int .i64 0,.int .i64 0,.int .i64 0,.int .i64 0,.int .i64 0]=Wf:=⟨_,rfl⟩
  have ni:=kp (show aa Wf w.heap.size 100 zN by rw [<-bW];exact eO cQ.o _ rfl);have dW:=kp (show Below w.heap.size w Wf by rw [<-bW];exact eU (ah _) _ _ _ ay.o);have Hf:=kp (HQ.o ⟨0,none,[],0,cO⟩ Wf rfl ⟨Row.nil _ _ _,fun l hl=>by cases hl⟩ ⟨⟨fun k off e av=>absurd rfl av,fun l hl=>by cases hl⟩,fun l hl=>by cases hl⟩ dW.o);simp only [aK,Nat.zero_add,Nat.reduceAdd] at bW;obtain ⟨y0,y1,y2,y3,y4,y5,y6,y7,y8,y9,y10,y11,y12,y13⟩:=(aa.cw ni.o).1;clear HQ ni cQ;go_enter Tryz.func125,Tryz.ntmps125;go_wp2_with fail;refine bodyPost_ret (v := .agg zN) ?_ rfl Hf.o;simp [results,Tryz.results125,go_sem,y0,y1,y2,y3,y4,y5,y6,y7,y8,y9,y10,y11,y12,y13]
 .have HN:=kp (H1.o.node ho (a5H hn));have q0:((n:Int) == (-1:Int))=false:=by rw [beq_eq_false_iff_ne];omega
  clear H1 ho;go_enter Tryz.func125,Tryz.ntmps125;go_wp2_with fail;refine HN.o.mono ?_;rintro e w1 ⟨n',rfl,iZ,kO,GI,aH⟩;have cV:=aH.alloc aH.size (.cells (bG n') 100);have ux:=kp iZ;have zS:=kp ((kO.below (Below.alloc (aq _ _) (ah _) (.cells (bG n') 100))).more (show w1.heap.size<=(w1.alloc (.cells (bG n') 100)).heap.size by simp));have zU:=kp GI.1;have KJ:=kp GI.2;have tp:=bu cQ cV;have eg:=kp (aa.new w1 100 (bG n'));have aF:=aR ay cV;clear iZ kO GI aH cV dj HN z0 z1 z2 z3 z4 z5 z6 z7 z8 z9 iX iY rh ri fD;generalize yo:w1.alloc (.cells (bG n') 100)=W5 at *;obtain ⟨rD,fD⟩:=aa.cw tp.o;have oZ:=kp (show w.heap.size<W0.heap.size from cQ.o.lt);have HF:=kp (HQ.o n' (aK W5 w.heap.size 0 (dJ n')) ux.o)
  have ym:=kp (show dp (aK W5 w.heap.size 0 (dJ n')) (aK W5 w.heap.size 0 (dJ n')).heap.size n' from by
   rw [J8];refine ⟨Row.tU (fun k hk e => ?_) _ _ _ zS.o.row,fun l hl=>Row.tU (fun k hk e => ?_) _ _ _ (zS.o.each l hl)⟩
   .obtain ⟨av,off,ea⟩:=hk;have:=zU.o.1 k off ea av;have:=oZ.o;omega
   .obtain ⟨av,off,ea⟩:=hk;have:=zU.o.2 l hl k off ea av;have:=oZ.o
    omega)
  have bN:=kp (HF.o ym.o ⟨zU.o.less ay.o.size,KJ.o⟩ (eU (ah _) _ _ _ aF.o));have HB:=kp (show aa (aK W5 w.heap.size 0 (dJ n')) w.heap.size 100 (bG n') from eO tp.o (dJ n') rfl);obtain ⟨GJ,Oo,zV,Oq,⟨wX,Ot,⟨Ou,GK,Ov,BO,GL,Ow,ic,Ox,Oy,oX⟩⟩⟩:=n';clear HF ym ux zS zU KJ HQ oZ cQ ay tp;dsimp only [bG,dJ] at bN HB eg yo ⊢;generalize bW:aK W5 w.heap.size 0 _=Wf at *;simp only [aK,Nat.zero_add,Nat.reduceAdd] at bW;obtain ⟨y0,y1,y2,y3,y4,y5,y6,y7,y8,y9,y10,y11,y12,y13⟩:=(aa.cw eg.o).1;obtain ⟨z0,z1,z2,z3,z4,z5,z6,z7,z8,z9,iX,iY,rh,ri⟩:=(aa.cw HB.o).1;go_wp2_with fail;refine bodyPost_ret (v := .agg #[.int .i64 (GJ:Nat),.slice Oo zV.length Oq,.int .i64 (wX:Nat),.int .i64 (Ot:Nat),.int .i64 Ou,.int .i64 GK,.int .i64 Ov,.int .i64 BO,.int .i64 GL,.int .i64 Ow,.int .i64 ic,.int .i64 Ox,.int .i64 Oy,.int .i64 oX]) ?_ rfl bN.o;simp [results,Tryz.results125,go_sem,z0,z1,z2,z3,z4,z5,z6,z7,z8,z9,iX,iY,rh,ri]
section
variable {c:Mc} {F:Nat->Prop} {w w':World} {An:OA} {cn:Nat} {nds:List Nd} {sm:dU}
theorem Mc.Dy.uL (h:c.Dy w F An cn nds sm) (hm:Mv F w w' F) (hd:c.Dy w' F An cn nds sm):xw c F w w' An cn nds sm :=
 hm.uL hd h.o.line h.hi (fun k hk=>h.o.vL k hk) (fun k hk=>⟨h.o.dV k hk,h.fF k hk⟩)
theorem Mc.Dy.a0B (h:c.Dy w F An cn nds sm) (hb:Below w.heap.size w w'):xw c F w w' An cn nds sm:=h.uL ((Mv.start F w).below hb) (h.below hb)
end
def LI (c:Mc) (F:Nat->Prop) (r:dU×Nat) (w:World) (e:Ending) (w':World):Prop:=∃ (cX:OA) (cY:Nat) (fC:List Nd),e = .returned (.int .i64 r.2)/\xw c F w w' cX cY fC r.1
def IK (c:Mc) (F:Nat->Prop) (r:dU×Cl) (w:World) (e:Ending) (w':World):Prop:=∃ (cX:OA) (cY:Nat) (fC:List Nd),e = .returned (.agg (bQ r.2))/\xw c F w w' cX cY fC r.1
def Rj (c:Mc) (W:Int×Int->Prop) (f:RecM):Prop:=∀F An cn nds sm (p:Int×Int) w r,c.Dy w F An cn nds sm->W p->f p sm=some r->c.sF r.1 ->
 Calls Tryz.prog 85 #[.pointer (some ⟨c.gm,0,none⟩),.agg #[.int .i64 p.1,.int .i64 p.2]] w (LI c F r w)
def Mj (c:Mc) (W:Int×Int->Prop) (f:Option RecM):Prop:=∀F An cn nds sm key x b y b' w r,c.Dy w F An cn nds sm->(b=false->x=cO)->(b'=false->y=cO)->eX x.ag->eX y.ag->W (fY (hO x b),fY (hO y b')) ->
 Bb f key (hO x b,hO y b') sm=some r->c.sF r.1->Calls Tryz.prog 128 #[.pointer (some ⟨c.gm,0,none⟩),.bool f.isNone,.int .i64 (key:Nat),.agg (hC x b),.agg (hC y b')] w (IK c F r w)
theorem a8G (c:Mc) (W:Int×Int->Prop):Mj c W none:=by
 intro F An cn nds sm key x b y b' w r hd hx hy fx fy hW hr hp;have aN:=(((aq w.heap.size w).alloc (ah _) (.cells (hC x b) 237)).alloc (by simp) (.cells (hC y b') 237)).alloc (by simp;omega) (.cells zC 98);have bL:=kp (((aa.new w 237 (hC x b)).alloc (.cells (hC y b') 237)).alloc (.cells zC 98));have aV:=kp ((aa.new (w.alloc (.cells (hC x b) 237)) 237 (hC y b')).alloc (.cells zC 98));have bM:=kp (aa.new ((w.alloc (.cells (hC x b) 237)).alloc (.cells (hC y b') 237)) 98 zC);have fe:(w.alloc (.cells (hC x b) 237)).heap.size=w.heap.size+1:=by simp
 have kT:((w.alloc (.cells (hC x b) 237)).alloc (.cells (hC y b') 237)).heap.size=w.heap.size+2:=by simp
 rw [fe] at aV;rw [kT] at bM;have bC:=kp aN;have Hd:=kp hd;have jb:(bY (xu (hO x b)) (xu (hO y b'))).map (fun g=>(sm,(⟨key,0,g⟩:Cl)))=some r:=hr;rw [YN hx,YN hy] at jb;obtain ⟨g,hg,rfl⟩:=Option.map_eq_some_iff.1 jb;have HJ:=kp (fun w=>QX x.ag y.ag w fx fy);have Hg:=kp hg;have HQ:=kp (show ∀w',Below w.heap.size w w'->IK c F (sm,⟨key,0,g⟩) w (.returned (.agg (bQ ⟨key,0,g⟩))) w' from fun w' h=>⟨An,cn,nds,rfl,Hd.o.a0B h⟩);generalize hQ:IK c F (sm,⟨key,0,g⟩) w=Q at *;clear hQ hd hx hy fx fy hW hr hp jb hg Hd aN fe kT;generalize dk:w.alloc (.cells (hC x b) 237)=W1 at *;generalize dN:W1.alloc (.cells (hC y b') 237)=W2 at *;generalize dH:W2.alloc (.cells zC 98)=W3 at *;have fe:W1.heap.size=w.heap.size+1:=by rw [<-dk];simp
 have kT:W2.heap.size=w.heap.size+2:=by rw [<-dN,<-dk];simp
 have aD:=(aa.rJ bL.o).1;have dD:=(aa.rJ aV.o).1;clear bL aV;go_enter Tryz.func128,Tryz.ntmps128;go_wp2_with fail;refine (HJ.o W3).mono ?_;rintro e w4 ⟨rfl,cq⟩;rw [Hg.o];simp only [Option.getD_some,Option.isSome_some];have cV:=cq.alloc cq.size (.cells (bj g) 54);have eg:=kp (aa.new w4 54 (bj g));have xa:=bu bM cV;have bZ:=aR bC cV;clear cq cV HJ aD dD bM bC dk dN dH fe kT;generalize yo:w4.alloc (.cells (bj g) 54)=W5 at *;have eD:=(aa.eS eg.o).1;obtain ⟨rD,fD⟩:=aa.fQ xa.o;obtain ⟨Wf,bW⟩:∃Wf,aK W5 (w.heap.size+2) 0 [.int .i64 (key:Nat),.int .i64 0,.int .i64 g.c,.int .i64 g.s0,.int .i64 g.n0,.int .i64 g.x0,.int .i64 g.s1,.int .i64 g.n1,.int .i64 g.x1,.int .i64 g.s2,.int .i64 g.n2,.int .i64 g.x2]=Wf:=⟨_,rfl⟩
 have dW:=kp (show aa Wf (w.heap.size+2) 98 (bQ ⟨key,0,g⟩) by rw [<-bW];exact eO xa.o _ rfl);have bN:=kp (HQ.o Wf (by rw [<-bW];exact eU (by omega) _ _ _ bZ.o));simp only [aK,Nat.zero_add,Nat.reduceAdd] at bW;obtain ⟨z0,z1,z2,z3,z4,z5,z6,z7,z8,z9,iX,iY⟩:=(aa.fQ dW.o).1;clear dW HQ eg xa bZ Hg;go_wp2_with fail;refine bodyPost_ret (v := .agg (bQ ⟨key,0,g⟩)) ?_ rfl bN.o;simp [results,Tryz.results128,go_sem,z0,z1,z2,z3,z4,z5,z6,z7,z8,z9,iX,iY]
theorem AS {w w':World} {g:Nat} {t:TypeId} {v0 v1 v2 v3 v4 v5 v6 v7 v8 v9 nD pr kq:Value} (hb:aa w g t #[v0,v1,v2,v3,v4,v5,v6,v7,v8,v9,nD,pr,kq]) (h:w'.heap[g]? = w.heap[g]?):w'.cell? ⟨g,0,none⟩=some (v0)/\w'.cell? ⟨g,1,none⟩=some (v1)/\w'.cell? ⟨g,2,none⟩=some (v2)/\w'.cell? ⟨g,3,none⟩=some (v3)/\w'.cell? ⟨g,4,none⟩=some (v4)/\w'.cell? ⟨g,5,none⟩=some (v5)/\w'.cell? ⟨g,6,none⟩=some (v6)/\w'.cell? ⟨g,7,none⟩=some (v7)/\w'.cell? ⟨g,8,none⟩=some (v8)/\w'.cell? ⟨g,9,none⟩=some (v9)/\w'.cell? ⟨g,10,none⟩=some (nD)/\w'.cell? ⟨g,11,none⟩=some (pr)/\w'.cell? ⟨g,12,none⟩=some (kq):=(aa.rJ (show aa w' g t _ from h.trans hb)).1
theorem ab4 (c:Mc) (W:Int×Int->Prop) (f:RecM) (hf:Rj c W f):Mj c W (some f):=by
 intro F An cn nds sm key x b y b' w r hd hx hy fx fy hW hr hp;have aN:=(((aq w.heap.size w).alloc (ah _) (.cells (hC x b) 237)).alloc (by simp) (.cells (hC y b') 237)).alloc (by simp;omega) (.cells zC 98);have bL:=kp (((aa.new w 237 (hC x b)).alloc (.cells (hC y b') 237)).alloc (.cells zC 98));have aV:=kp ((aa.new (w.alloc (.cells (hC x b) 237)) 237 (hC y b')).alloc (.cells zC 98));have bM:=kp (aa.new ((w.alloc (.cells (hC x b) 237)).alloc (.cells (hC y b') 237)) 98 zC);have fe:(w.alloc (.cells (hC x b) 237)).heap.size=w.heap.size+1:=by simp
 have kT:((w.alloc (.cells (hC x b) 237)).alloc (.cells (hC y b') 237)).heap.size=w.heap.size+2:=by simp
 rw [fe] at aV;rw [kT] at bM;have bC:=kp aN;have Hd:=kp hd;obtain ⟨q,hq,rfl⟩:=Option.map_eq_some_iff.1 (show (f (fY (hO x b),fY (hO y b')) sm).map _=some r from hr);have HN:=kp (fun w' (hb:Below w.heap.size w w')=>hf F An cn nds sm (fY (hO x b),fY (hO y b')) w' q (Hd.o.below hb) hW hq hp);have HQ:=kp (show ∀ (cX:OA) (cY:Nat) (fC:List Nd) w',xw c F w w' cX cY fC q.1->IK c F (q.1,⟨key,q.2,aO⟩) w (.returned (.agg (bQ ⟨key,q.2,aO⟩))) w' from fun cX cY fC w' h=>⟨cX,cY,fC,rfl,h⟩);generalize hQ:IK c F (q.1,⟨key,q.2,aO⟩) w=Q at *;clear hQ hd hx hy fx fy hW hr hp hq aN fe kT hf;generalize dk:w.alloc (.cells (hC x b) 237)=W1 at *;generalize dN:W1.alloc (.cells (hC y b') 237)=W2 at *;generalize dH:W2.alloc (.cells zC 98)=W3 at *;have fe:W1.heap.size=w.heap.size+1:=by rw [<-dk];simp
 have kT:W2.heap.size=w.heap.size+2:=by rw [<-dN,<-dk];simp
 have aD:=(aa.rJ bL.o).1;obtain ⟨d0,d1,d2,d3,d4,d5,d6,d7,d8,d9,dB,dC,gB⟩:=(aa.rJ aV.o).1;have oZ:=kp (show w.heap.size+2<W3.heap.size from bM.o.lt);go_enter Tryz.func128,Tryz.ntmps128;go_upto_region 2 with fail
 refine wp_region_noPanic ?_;refine dt (t:=99) (S:=(fun W=>(W.cell? ⟨w.heap.size,0,none⟩=some (.int .i64 x.key)/\W.cell? ⟨w.heap.size,1,none⟩=some (.int .i64 x.child)/\W.cell? ⟨w.heap.size,2,none⟩=some (.int .i64 x.ag.c)/\W.cell? ⟨w.heap.size,3,none⟩=some (.int .i64 x.ag.s0)/\W.cell? ⟨w.heap.size,4,none⟩=some (.int .i64 x.ag.n0)/\W.cell? ⟨w.heap.size,5,none⟩=some (.int .i64 x.ag.x0)/\W.cell? ⟨w.heap.size,6,none⟩=some (.int .i64 x.ag.s1)/\W.cell? ⟨w.heap.size,7,none⟩=some (.int .i64 x.ag.n1)/\W.cell? ⟨w.heap.size,8,none⟩=some (.int .i64 x.ag.x1)/\W.cell? ⟨w.heap.size,9,none⟩=some (.int .i64 x.ag.s2)/\W.cell? ⟨w.heap.size,10,none⟩=some (.int .i64 x.ag.n2)/\W.cell? ⟨w.heap.size,11,none⟩=some (.int .i64 x.ag.x2)/\W.cell? ⟨w.heap.size,12,none⟩=some (.bool b))/\(W.cell? ⟨w.heap.size+1,0,none⟩=some (.int .i64 y.key)/\W.cell? ⟨w.heap.size+1,1,none⟩=some (.int .i64 y.child)/\W.cell? ⟨w.heap.size+1,2,none⟩=some (.int .i64 y.ag.c)/\W.cell? ⟨w.heap.size+1,3,none⟩=some (.int .i64 y.ag.s0)/\W.cell? ⟨w.heap.size+1,4,none⟩=some (.int .i64 y.ag.n0)/\W.cell? ⟨w.heap.size+1,5,none⟩=some (.int .i64 y.ag.x0)/\W.cell? ⟨w.heap.size+1,6,none⟩=some (.int .i64 y.ag.s1)/\W.cell? ⟨w.heap.size+1,7,none⟩=some (.int .i64 y.ag.n1)/\W.cell? ⟨w.heap.size+1,8,none⟩=some (.int .i64 y.ag.x1)/\W.cell? ⟨w.heap.size+1,9,none⟩=some (.int .i64 y.ag.s2)/\W.cell? ⟨w.heap.size+1,10,none⟩=some (.int .i64 y.ag.n2)/\W.cell? ⟨w.heap.size+1,11,none⟩=some (.int .i64 y.ag.x2)/\W.cell? ⟨w.heap.size+1,12,none⟩=some (.bool b')))) (by kernel_rfl) ⟨aD,d0,d1,d2,d3,d4,d5,d6,d7,d8,d9,dB,dC,gB⟩ (fun ad => ?_);refine tD 0 1 2 4 ad ?_;refine oT 3 fun K hK=>?_
 go_simp
 refine (a0c x b _).mono ?_;rintro e wk ⟨rfl,Te⟩;have La:=kp (show Below W3.heap.size W3 wk from (aq _ _).drew.trans Te);clear Te;refine oK hK ?_ fun af=>?_
 .exact ⟨AS (bL.o.under La.o) rfl,AS (aV.o.under La.o) rfl⟩
 replace ad:=af;clear hK K af;refine oT 5 fun K hK=>?_
 go_simp
 refine (a0c y b' _).mono ?_;rintro e w4 ⟨rfl,cq⟩;have hT:Below W3.heap.size W3 w4:=La.o.trans (cq.mono La.o.size);clear cq;refine oK hK ?_ fun af=>?_
 .exact ⟨AS (bL.o.under hT) rfl,AS (aV.o.under hT) rfl⟩
 replace ad:=af;clear hK K af;have bH:=aR bC hT;have Vb:=hT.size;have Vc:=bu bL hT;have H':=bu aV hT;have OC:=bu bM hT;have Vd:=kp (HN.o w4 bH.o);have Gj:∀g,w.heap.size<=g->¬F g:=fun g hg hf=>by have:=Hd.o.o.dV g hf;omega
 have Ve:=kp Gj;have wC:=kp (show w.heap.size+2<w4.heap.size from dL oZ.o Vb);dsimp only at Vd;clear hT HN bL aV bM La dk dN dH fe kT Gj Vb oZ bC aD d0 d1 d2 d3 d4 d5 d6 d7 d8 d9 dB dC gB;generalize fY (hO x b)=i1 at *;generalize fY (hO y b')=i2 at *;refine tk 6 ad ?_;refine oT 7 fun K hK=>?_
 go_simp
 refine Vd.o.mono ?_;rintro e w7 ⟨yq,yr,a3T,rfl,Vg⟩;have Vh:=kp Vg;have hk7:∀g,w.heap.size<=g->g<w4.heap.size->w7.heap[g]? = w4.heap[g]? := fun g h1 h2=>Vg.bU.block g h2 (Ve.o g h1)
 have I0:=kp hk7;clear Vg hk7;refine oK hK ?_ fun af=>?_
 .exact ⟨AS Vc.o (I0.o _ (ah _) (by have:=wC.o;omega)),AS H'.o (I0.o _ (by omega) (by have:=wC.o;omega))⟩
 replace ad:=af;clear hK K af;have lN:=kp (show aa w7 (w.heap.size+2) 98 zC from (I0.o _ (by omega) wC.o).trans OC.o);have HA7:=kp (show aa w7 w.heap.size 237 (hC x b) from (I0.o _ (ah _) (by have:=wC.o;omega)).trans Vc.o);have HD7:=kp (show aa w7 (w.heap.size+1) 237 (hC y b') from (I0.o _ (by omega) (by have:=wC.o;omega)).trans H'.o);obtain ⟨rD,fD⟩:=aa.fQ lN.o;obtain ⟨Wf,bW⟩:∃Wf,aK w7 (w.heap.size+2) 0 [.int .i64 (key:Nat),.int .i64 q.2,.int .i64 0,.int .i64 0,.int .i64 0,.int .i64 0,.int .i64 0,.int .i64 0,.int .i64 0,.int .i64 0,.int .i64 0,.int .i64 0]=Wf:=⟨_,rfl⟩
 have dW:=kp (show aa Wf (w.heap.size+2) 98 (bQ ⟨key,q.2,aO⟩) by rw [<-bW];exact eO lN.o _ rfl);have HAf:=kp (show Wf.heap[w.heap.size]? = w7.heap[w.heap.size]? by rw [<-bW];exact gu (by omega) _ _ _);have HDf:=kp (show Wf.heap[w.heap.size+1]? = w7.heap[w.heap.size+1]? by rw [<-bW];exact gu (by omega) _ _ _)
 have pz:=kp (show xw c F w Wf yq yr a3T q.1 by
  have hg:w.heap.size<=w.heap.size+2:=by omega
  have ma:¬more F w4 w7 (w.heap.size+2):=fun hm=>by
   rcases hm with hm | ⟨hm,_⟩
   .exact Ve.o _ hg hm
   .have:=wC.o;omega
  have hmv:=(((Mv.start F w).below bH.o).trans Vh.o.mv).aK hg 0 [.int .i64 (key:Nat),.int .i64 q.2,.int .i64 0,.int .i64 0,.int .i64 0,.int .i64 0,.int .i64 0,.int .i64 0,.int .i64 0,.int .i64 0,.int .i64 0,.int .i64 0];have Ck:=Vh.o.dy.aK (g:=w.heap.size+2) (by have:=Hd.o.hi;omega) (by have:=Hd.o.o.line;omega) ma 0 [.int .i64 (key:Nat),.int .i64 q.2,.int .i64 0,.int .i64 0,.int .i64 0,.int .i64 0,.int .i64 0,.int .i64 0,.int .i64 0,.int .i64 0,.int .i64 0,.int .i64 0];rw [bW] at hmv Ck
  exact hmv.uL Ck Hd.o.o.line Hd.o.hi (fun k hk=>Hd.o.o.vL k hk) (fun k hk=>⟨Hd.o.o.dV k hk,Hd.o.fF k hk⟩))
 have bN:=kp (HQ.o yq yr a3T Wf pz.o);simp only [aK,Nat.zero_add,Nat.reduceAdd] at bW;obtain ⟨z0,z1,z2,z3,z4,z5,z6,z7,z8,z9,iX,iY⟩:=(aa.fQ dW.o).1;clear pz HQ lN Vh Hd I0 Vc H' OC bH Vd Ve;refine tk 8 ad ?_;refine oT 9 fun K hK=>?_
 go_simp
 refine oK hK ?_ fun af=>?_
 .exact ⟨AS HA7.o HAf.o,AS HD7.o HDf.o⟩
 replace ad:=af;clear hK K af;refine dY (by kernel_rfl) ?_ _
 try clear ad
 refine NoPanic.normal ?_;clear rD fD bW;go_wp2_with fail;refine bodyPost_ret (v := .agg (bQ ⟨key,q.2,aO⟩)) ?_ rfl bN.o;simp [results,Tryz.results128,go_sem,z0,z1,z2,z3,z4,z5,z6,z7,z8,z9,iX,iY]
def rv (a b:dU):Prop:=∃ys,b.nodes=a.nodes++ys
theorem rv.refl (a:dU):rv a a:=⟨[],by simp⟩
theorem rv.trans {a b c:dU} (h:rv a b) (k:rv b c):rv a c:=by
 obtain ⟨ys,h⟩:=h;obtain ⟨zs,k⟩:=k;exact ⟨ys++zs,by rw [k,h,append_assoc]⟩
theorem Mc.sF.of {c:Mc} {a b:dU} (h:c.sF b) (he:rv a b):c.sF a:=by
 obtain ⟨ys,h⟩:=h;obtain ⟨zs,he⟩:=he;exact ⟨zs++ys,by rw [h,he,append_assoc]⟩
def Ix (g:RecM):Prop:=∀p st r,g p st=some r->rv st r.1
section
variable {f:Option RecM} (hf:∀g,f=some g->Ix g)
include hf
theorem QE {key:Nat} {h:Hv} {st:dU} {r:dU×Cl} (hr:Bb f key h st=some r):rv st r.1:=by
 unfold Bb at hr;split at hr
 .obtain ⟨q,_,rfl⟩:=Option.map_eq_some_iff.1 hr;exact rv.refl _
 .obtain ⟨q,hq,rfl⟩:=Option.map_eq_some_iff.1 hr;exact hf _ rfl _ _ _ hq
theorem Qw:∀ (hs:List Hv) (s r:dU×List Cl),uH f hs s=some r->rv s.1 r.1
 | [],s,r,h=>by injection h with h;subst h;exact rv.refl _
 | h::hs,s,r,hr=>by
  unfold uH at hr;obtain ⟨q,hq,hr⟩:=Option.bind_eq_some_iff.1 hr;exact (QE hf hq).trans (Qw hs _ _ hr)
theorem Rt {x y:List (List Cl)}:∀ (ts:LN) (s r:dU×List (List Cl)),vA f x y ts s=some r->rv s.1 r.1
 | [],s,r,h=>by injection h with h;subst h;exact rv.refl _
 | t::ts,s,r,hr=>by
  unfold vA at hr;obtain ⟨q,hq,hr⟩:=Option.bind_eq_some_iff.1 hr;exact (Qw hf _ _ _ hq).trans (Rt ts _ _ hr)
theorem a0r {X Y:List aI} {most:Nat}:Ix (xJ X Y most f):=by
 intro p st r h;unfold xJ at h;split at h
 .injection h with h;subst h;exact rv.refl _
 .obtain ⟨q,hq,h⟩:=Option.bind_eq_some_iff.1 h;obtain ⟨x,hx,h⟩:=Option.bind_eq_some_iff.1 h;split at h
  .injection h with h
   subst h;exact ((Rt hf _ _ _ hq).trans (QE hf hx)).trans ⟨_,rfl⟩
  .cases h
end
theorem a0W {X Y:List aI} {most:Nat}:∀ {d:Nat},Ix (AK X Y most d)
 | 0=>a0r (f:=none) (fun g e=>by cases e)
 | d+1=>a0r (f:=some (AK X Y most d)) (fun g e=>by injection e with e;subst e;exact a0W)
def uQ (b off c:Nat):OA:=if c=1 then some ⟨b,off,none⟩ else some ⟨b,off+12,none⟩
theorem Ft (b off n c:Nat) (h0:1<=n) (hc:n<=c) (w:World):(Instr.slice 164 (.slice (some ⟨b,off,none⟩) n c) (some (.int .i64 1)) none none).run Tryz.prog w = .ok (.slice (uQ b off c) (n-1) (c-1)) w:=by
 have h1:Tryz.prog.cellsOf 98=12:=by kernel_rfl
 obtain ⟨i0,cG,cI,cH,cJ⟩:=info_parts CU;have hn:(1:Int)<=(n:Int):=by omega
 unfold uQ;by_cases h:c=1<;>simp [go_sem,Tryz.underlying164,h,h1,cG,cH,Addr.add,hn]
theorem EH {w:World} {B b off c:Nat} {x:Cl} {xs:List Cl} (h:Row w B (some ⟨b,off,none⟩) ((x::xs).flatMap bT)) (hc:xs.length+1<=c):Row w B (uQ b off c) (xs.flatMap bT):=by
 unfold uQ;by_cases h1:c=1
 .have:xs=[]:=length_eq_zero_iff.1 (by omega);subst this;exact .inl rfl
 .rw [if_neg h1];rcases h with h | ⟨b',jy,e,hb,nZ⟩
  .simp at h
  .injection e with e
   injection e with e1 e2 _
   subst e1 e2;refine .inr ⟨b,off+12,rfl,hb,fun j v hv => ?_⟩;have:=nZ (12+j) v (by rw [flatMap_cons,getElem?_append_right (by rw [yM];omega),yM,Nat.add_sub_cancel_left];exact hv);rw [Nat.add_assoc];exact this
theorem Fi {b off c k:Nat} {x:Cl} {xs:List Cl} (h:eo (uQ b off c) (xs.flatMap bT) k):eo (some ⟨b,off,none⟩) ((x::xs).flatMap bT) k:=by
 obtain ⟨_,o,e⟩:=h;refine ⟨by simp,off,?_⟩;unfold uQ at e;split at e
 .injection e with e;injection e with e1 _ _;rw [e1]
 .injection e with e;injection e with e1 _ _;rw [e1]
theorem MF {w:World} {B:Nat} {A:OA} {x:Cl} {xs:List Cl} (h:Row w B A ((x::xs).flatMap bT)):∃b o,A=some ⟨b,o,none⟩/\b<B/\cC w b o x:=by
 obtain ⟨b,o,e,hb,hc⟩:=Row.rec yM h (by omega) 0 (by simp);simp only [Nat.zero_mul,Nat.add_zero] at hc;exact ⟨b,o,e,hb,hc 0 _ rfl,hc 1 _ rfl,hc 2 _ rfl,hc 3 _ rfl,hc 4 _ rfl,hc 5 _ rfl,hc 6 _ rfl,hc 7 _ rfl,hc 8 _ rfl,hc 9 _ rfl,hc 10 _ rfl,hc 11 _ rfl⟩
theorem oO {w w':World} {b o:Nat} {x:Cl} (hs:w'.heap[b]? = w.heap[b]?) (h:cC w b o x):cC w' b o x :=
 ⟨(cZ (a:=⟨b,o,none⟩) hs).trans h.1,(cZ (a:=⟨b,o+1,none⟩) hs).trans h.2.1,(cZ (a:=⟨b,o+2,none⟩) hs).trans h.2.2.1,(cZ (a:=⟨b,o+3,none⟩) hs).trans h.2.2.2.1,(cZ (a:=⟨b,o+4,none⟩) hs).trans h.2.2.2.2.1,(cZ (a:=⟨b,o+5,none⟩) hs).trans h.2.2.2.2.2.1,(cZ (a:=⟨b,o+6,none⟩) hs).trans h.2.2.2.2.2.2.1,(cZ (a:=⟨b,o+7,none⟩) hs).trans h.2.2.2.2.2.2.2.1,(cZ (a:=⟨b,o+8,none⟩) hs).trans h.2.2.2.2.2.2.2.2.1,(cZ (a:=⟨b,o+9,none⟩) hs).trans h.2.2.2.2.2.2.2.2.2.1,(cZ (a:=⟨b,o+10,none⟩) hs).trans h.2.2.2.2.2.2.2.2.2.2.1,(cZ (a:=⟨b,o+11,none⟩) hs).trans h.2.2.2.2.2.2.2.2.2.2.2⟩
def PI (c:Mc) (F:Nat->Prop) (r:dU×List Cl) (w:World) (e:Ending) (w':World):Prop:=∃ (F1:Nat->Prop) (cX:OA) (cY:Nat) (fC:List Nd) (A:OA) (k:Nat),e = .returned (.slice A r.2.length k)/\Mv F w w' F1/\c.Dy w' F1 cX cY fC r.1/\jG w' F1 w.heap.size (.slice A r.2.length k) r.2
structure RB (c:Mc) (F:Nat->Prop) (w:World) (W:Int×Int->Prop) (f:Option RecM) (pR:dU×List Cl) (A2 A3 A9:OA) (c2 c3 c9:Nat) (xs ys cs:List Cl) (F1:Nat->Prop) (An:OA) (cn:Nat) (nds:List Nd) (sm:dU) (wr:World):Prop where
 mv:Mv F w wr F1
 dy:c.Dy wr F1 An cn nds sm
 loc:jG wr F1 w.heap.size (.slice A9 cs.length c9) cs
 rx:Row wr wr.heap.size A2 (xs.flatMap bT)
 fx:∀k,eo A2 (xs.flatMap bT) k->¬F1 k/\k<w.heap.size
 ry:Row wr wr.heap.size A3 (ys.flatMap bT)
 fy:∀k,eo A3 (ys.flatMap bT) k->¬F1 k/\k<w.heap.size
 kx:xs.length<=c2
 ky:ys.length<=c3
 gx:∀x∈xs,eX x.ag
 gy:∀x∈ys,eX x.ag
 nx:xs.length<=1000
 ny:ys.length<=1000
 mU:cs.length+xs.length+ys.length<=2000
 wok:∀h∈ik xs ys,W (fY h.1,fY h.2)
 run:uH f (ik xs ys) (sm,cs)=some pR
structure aaK (wr wx:World) (x:Cl) (b:Bool) (y:Cl) (b':Bool) (xs ys nM mH:List Cl) (A2 A3 Eo Ep:OA) (BS I5:Nat):Prop where
 bJ:Below wr.heap.size wr wx
 bx:aa wx wr.heap.size 237 (hC x b)
 by_:aa wx (wr.heap.size+1) 237 (hC y b')
 zip:ik xs ys=(hO x b,hO y b')::ik nM mH
 ox:(b=true/\xs=x::nM)\/(b=false/\x=cO/\nM=xs)
 oy:(b'=true/\ys=y::mH)\/(b'=false/\y=cO/\mH=ys)
 any:b=true\/b'=true
 rx:Row wr wr.heap.size Eo (nM.flatMap bT)
 fx:∀k,eo Eo (nM.flatMap bT) k->eo A2 (xs.flatMap bT) k
 ry:Row wr wr.heap.size Ep (mH.flatMap bT)
 fy:∀k,eo Ep (mH.flatMap bT) k->eo A3 (ys.flatMap bT) k
 kx:nM.length<=BS
 ky:mH.length<=I5
theorem a7q (c:Mc) (W:Int×Int->Prop) (f:Option RecM) (hf:Mj c W f) (he:∀g,f=some g->Ix g) (F:Nat->Prop) (An:OA) (cn:Nat) (nds:List Nd) (sm:dU) (Ax Ay:OA) (cx cy:Nat) (xs ys:List Cl) (w:World) (r:dU×List Cl)
 (hd:c.Dy w F An cn nds sm) (rx:Row w w.heap.size Ax (xs.flatMap bT)) (fx:∀k,eo Ax (xs.flatMap bT) k->¬F k) (ry:Row w w.heap.size Ay (ys.flatMap bT)) (fy:∀k,eo Ay (ys.flatMap bT) k->¬F k) (kx:xs.length<=cx) (ky:ys.length<=cy) (gx:∀x∈xs,eX x.ag) (gy:∀x∈ys,eX x.ag)
 (nx:xs.length<=1000) (ny:ys.length<=1000) (hw:∀h∈ik xs ys,W (fY h.1,fY h.2)) (hr:uH f (ik xs ys) (sm,[])=some r) (hp:c.sF r.1) :
 Calls Tryz.prog 126 #[.pointer (some ⟨c.gm,0,none⟩),.bool f.isNone,.slice Ax xs.length cx,.slice Ay ys.length cy] w (PI c F r w):=by
 have HQ:=kp (show ∀ (A2 A3 A9:OA) (c2 c3 c9:Nat) (cs:List Cl) (F1:Nat->Prop) (pC:OA) (pE:Nat) (pF:List Nd) (uF:dU) (wr:World),RB c F w W f r A2 A3 A9 c2 c3 c9 [] [] cs F1 pC pE pF uF wr->PI c F r w (.returned (.slice A9 cs.length c9)) wr from fun A2 A3 A9 c2 c3 c9 cs F1 pC pE pF uF wr h=>by
  have e:=h.run;rw [show ik [] []=[] by rw [ik]] at e;injection e with e
  subst e
  exact ⟨F1,pC,pE,pF,A9,c9,rfl,h.mv,h.dy,h.loc⟩)
 have Hs:=kp (show RB c F w W f r Ax Ay none cx cy 0 xs ys [] F An cn nds sm w from ⟨Mv.start F w,hd,jG.nil _ _ _,rx,fun k hk=>⟨fx k hk,Row.cW rx hk⟩,ry,fun k hk=>⟨fy k hk,Row.cW ry hk⟩,kx,ky,gx,gy,nx,ny,by simp only [length_nil];omega,hw,hr⟩);have Hp:=kp hp;have HF:=kp (show ∀k,F k->k<w.heap.size from hd.o.dV);have HC:=kp hf;have HE:=kp he;have a3U:=kp (show c.w0.heap.size<=w.heap.size/\c.B<=w.heap.size from ⟨hd.hi,hd.o.line⟩);generalize hQ:PI c F r w=Q at *;clear hQ hd rx fx ry fy kx ky gx gy hw hr hp hf he;obtain ⟨i0,cG,cI,cH,cJ⟩:=info_parts CU;obtain ⟨l1,iT⟩:∃l,xs.length=l:=⟨_,rfl⟩
 obtain ⟨l2,mZ⟩:∃l,ys.length=l:=⟨_,rfl⟩
 have Hl:=kp (And.intro iT mZ);rw [iT,mZ];rw [iT] at nx;rw [mZ] at ny;clear iT mZ;go_enter Tryz.func126,Tryz.ntmps126;go_wp2_with fail
 go_loopg [2,3,9] (l1+l2) (fun n v2 v3 v9 wr=>∃ (A2 A3 A9:OA) (c2 c3 c9 n2 n3 n9:Nat) (xs ys cs:List Cl) (F1:Nat->Prop) (pC:OA) (pE:Nat) (pF:List Nd) (uF:dU),v2 = .slice A2 n2 c2/\v3 = .slice A3 n3 c3/\v9 = .slice A9 n9 c9/\n=n2+n3/\(xs.length=n2/\ys.length=n3/\cs.length=n9)/\RB c F w W f r A2 A3 A9 c2 c3 c9 xs ys cs F1 pC pE pF uF wr)
 case atStart=>exact ⟨Ax,Ay,none,cx,cy,0,l1,l2,0,xs,ys,[],F,An,cn,nds,sm,rfl,rfl,rfl,rfl,⟨Hl.o.1,Hl.o.2,rfl⟩,Hs.o⟩
 case round =>
  obtain ⟨A2,A3,A9,c2,c3,c9,n2,n3,n9,xs,ys,cs,F1,pC,pE,pF,uF,rfl,rfl,rfl,rfl,hl,hi⟩:=hrel;have Hl:=kp hl;have HI:=kp hi;have eZ:n2<=1000:=by rw [<-hl.1];exact hi.nx
  have Jw:n3<=1000:=by rw [<-hl.2.1];exact hi.ny
  have hw:IntKind.i64.wrap ((n2:Int)+(n3:Int))=(n2:Int)+(n3:Int):=IntWalk.i64_in _ (by omega);have x4:wr.cell? ⟨c.gm,4,none⟩=some (.int .i64 0):=hi.dy.kg.cell 4;have q4:((0:Int) == (0:Int))=true:=rfl;clear hl hi Hs;by_cases hz:n2+n3=0
  .obtain rfl:n2=0:=by omega
   obtain rfl:n3=0:=by omega
   have ex:=length_eq_zero_iff.1 Hl.o.1;have ey:=length_eq_zero_iff.1 Hl.o.2.1;subst ex ey;have Hf:=kp (HQ.o _ _ _ _ _ _ _ _ _ _ _ _ _ HI.o);rw [Hl.o.2.2] at Hf;go_wp2_with fail;exact Hf.o
  .have qp:decide ((0:Int)<(n2:Int)+(n3:Int))=true:=decide_eq_true (by omega);have qp2:(0:Int)<(n2:Int)+(n3:Int):=by omega
   have ku:=((aq wr.heap.size wr).alloc (ah _) (.cells #[.int .i64 0,.int .i64 0,.int .i64 0,.int .i64 0,.int .i64 0,.int .i64 0,.int .i64 0,.int .i64 0,.int .i64 0,.int .i64 0,.int .i64 0,.int .i64 0,.bool false] 237)).alloc (by simp) (.cells #[.int .i64 0,.int .i64 0,.int .i64 0,.int .i64 0,.int .i64 0,.int .i64 0,.int .i64 0,.int .i64 0,.int .i64 0,.int .i64 0,.int .i64 0,.int .i64 0,.bool false] 237);have bL:=kp ((aa.new wr 237 #[.int .i64 0,.int .i64 0,.int .i64 0,.int .i64 0,.int .i64 0,.int .i64 0,.int .i64 0,.int .i64 0,.int .i64 0,.int .i64 0,.int .i64 0,.int .i64 0,.bool false]).alloc (.cells #[.int .i64 0,.int .i64 0,.int .i64 0,.int .i64 0,.int .i64 0,.int .i64 0,.int .i64 0,.int .i64 0,.int .i64 0,.int .i64 0,.int .i64 0,.int .i64 0,.bool false] 237));have aV:=kp (aa.lay (w:=wr.alloc (.cells #[.int .i64 0,.int .i64 0,.int .i64 0,.int .i64 0,.int .i64 0,.int .i64 0,.int .i64 0,.int .i64 0,.int .i64 0,.int .i64 0,.int .i64 0,.int .i64 0,.bool false] 237)) (g:=wr.heap.size+1) (t:=237) (cs:=#[.int .i64 0,.int .i64 0,.int .i64 0,.int .i64 0,.int .i64 0,.int .i64 0,.int .i64 0,.int .i64 0,.int .i64 0,.int .i64 0,.int .i64 0,.int .i64 0,.bool false]) (by simp));have jT:=kp ku;have iJ:((wr.alloc (.cells #[.int .i64 0,.int .i64 0,.int .i64 0,.int .i64 0,.int .i64 0,.int .i64 0,.int .i64 0,.int .i64 0,.int .i64 0,.int .i64 0,.int .i64 0,.int .i64 0,.bool false] 237)).alloc (.cells #[.int .i64 0,.int .i64 0,.int .i64 0,.int .i64 0,.int .i64 0,.int .i64 0,.int .i64 0,.int .i64 0,.int .i64 0,.int .i64 0,.int .i64 0,.int .i64 0,.bool false] 237)).heap.size=wr.heap.size+2:=by simp
   clear ku;generalize dk:wr.alloc (.cells #[.int .i64 0,.int .i64 0,.int .i64 0,.int .i64 0,.int .i64 0,.int .i64 0,.int .i64 0,.int .i64 0,.int .i64 0,.int .i64 0,.int .i64 0,.int .i64 0,.bool false] 237)=W1 at *;generalize dN:W1.alloc (.cells #[.int .i64 0,.int .i64 0,.int .i64 0,.int .i64 0,.int .i64 0,.int .i64 0,.int .i64 0,.int .i64 0,.int .i64 0,.int .i64 0,.int .i64 0,.int .i64 0,.bool false] 237)=W2 at *;have fe:W1.heap.size=wr.heap.size+1:=by rw [<-dk];simp
   have Jv:W2.cell? ⟨c.gm,4,none⟩=some (.int .i64 0):=aL jT.o x4
   go_upto_block 2 with fail
   have Lb:=kp Jv;clear x4 Jv
   go_cut [2,3] from 13 to 100 (fun v2 v3 wx=>∃ (x:Cl) (b:Bool) (y:Cl) (b':Bool) (nM mH:List Cl) (Eo Ep:OA) (BS I5 m2 m3:Nat),v2 = .slice Eo m2 BS/\v3 = .slice Ep m3 I5/\(nM.length=m2/\mH.length=m3)/\aaK wr wx x b y b' xs ys nM mH A2 A3 Eo Ep BS I5)
   case first =>
    rcases xs with _ | ⟨x,nM⟩
    .rcases ys with _ | ⟨y,mH⟩
     .exact absurd (show n2+n3=0 by rw [<-Hl.o.1,<-Hl.o.2.1];rfl) hz
     .have nK:0<n3:=by rw [<-Hl.o.2.1];simp
      obtain rfl:n2=0:=Hl.o.1.symm;obtain ⟨b3,o3,KO,kj,d0,d1,d2,d3,d4,d5,d6,d7,d8,d9,dB,dC⟩:=MF HI.o.ry;subst KO;have yy:=kp kj;have I6:=kp (⟨d0,d1,d2,d3,d4,d5,d6,d7,d8,d9,dB,dC⟩:cC wr b3 o3 y);clear d0 d1 d2 d3 d4 d5 d6 d7 d8 d9 dB dC;obtain ⟨d0,d1,d2,d3,d4,d5,d6,d7,d8,d9,dB,dC⟩:=oO (jT.o.block _ yy.o) I6.o;have k5:((n3:Int) == (0:Int))=false:=by simp;omega
      go_wp2_with fail
      go_quiet (fail)
      go_wp2_with fail
      go_quiet (fail)
      go_upto_region 8 with fail
      clear d0 d1 d2 d3 d4 d5 d6 d7 d8 d9 dB dC;generalize Cm:W2.drewN _=W3a;generalize dH:W3a.drewN _=W3;have kE:=kp (show Below W2.heap.size W2 W3 by rw [<-dH,<-Cm];exact below_drewN (below_drewN (aq _ _) _) _);clear Cm;clear dH;have nQ:=kp (show Below wr.heap.size wr W3 from jT.o.trans (kE.o.mono (by rw [iJ];omega)));have mD:=kp (show aa W3.drew wr.heap.size 237 #[.int .i64 0,.int .i64 0,.int .i64 0,.int .i64 0,.int .i64 0,.int .i64 0,.int .i64 0,.int .i64 0,.int .i64 0,.int .i64 0,.int .i64 0,.int .i64 0,.bool false] from (bL.o.under kE.o).drew);have qG:=kp (show aa W3.drew (wr.heap.size+1) 237 #[.int .i64 0,.int .i64 0,.int .i64 0,.int .i64 0,.int .i64 0,.int .i64 0,.int .i64 0,.int .i64 0,.int .i64 0,.int .i64 0,.int .i64 0,.int .i64 0,.bool false] from (aV.o.under kE.o).drew);clear dk dN
      skip
      obtain ⟨yD,gD⟩:=aa.rJ qG.o;obtain ⟨Wf,bW⟩:∃Wf,aK W3.drew (wr.heap.size+1) 0 [.int .i64 y.key,.int .i64 y.child,.int .i64 y.ag.c,.int .i64 y.ag.s0,.int .i64 y.ag.n0,.int .i64 y.ag.x0,.int .i64 y.ag.s1,.int .i64 y.ag.n1,.int .i64 y.ag.x1,.int .i64 y.ag.s2,.int .i64 y.ag.n2,.int .i64 y.ag.x2,.bool true]=Wf:=⟨_,rfl⟩
      have AE:=kp (show aa Wf wr.heap.size 237 (hC cO false) by rw [<-bW];exact (gu (by omega) _ _ _).trans mD.o);have AF:=kp (show aa Wf (wr.heap.size+1) 237 (hC y true) by rw [<-bW];exact eO qG.o _ rfl);have dW:=kp (show Below wr.heap.size wr Wf by rw [<-bW];exact eU (by omega) _ _ _ nQ.o.drew);have yz:=kp (show ∀k,k<wr.heap.size->Wf.heap[k]? = W3.heap[k]? from fun k hk=>by rw [<-bW];exact gu (by omega) _ _ _);simp only [aK,Nat.zero_add,Nat.reduceAdd] at bW;have AG:=kp (oO (nQ.o.block _ yy.o) I6.o);obtain ⟨d0,d1,d2,d3,d4,d5,d6,d7,d8,d9,dB,dC⟩:=AG.o;clear mD qG kE nQ;have hsy:=Ft b3 o3 n3 c3 (by omega) (by rw [<-Hl.o.2.1];exact HI.o.ky);have iy:(0:Int)<(n3:Int):=by omega
      refine wp_region_noPanic ?_;refine dt (t:=99) (S:=(fun W=>(cC W b3 o3 y))) (by kernel_rfl) ⟨d0,d1,d2,d3,d4,d5,d6,d7,d8,d9,dB,dC⟩ (fun ad => ?_);generalize W3.drew=Wd at *;refine tD 0 1 2 3 ad ?_;refine tB 4 5 ad ?_;refine oT 6 fun K hK=>?_
      go_simp
      refine oK hK ?_ fun af=>?_
      .exact oO (yz.o _ yy.o) AG.o
      replace ad:=af;clear hK K af;refine tk 7 ad ?_;refine dY (by kernel_rfl) ?_ _
      try clear ad
      refine NoPanic.normal ?_;go_wp2_with fail
      go_meet
      have e1:=Hl.o.1;have e2:=Hl.o.2.1;simp only [length_cons,length_nil] at e1 e2;exact ⟨cO,false,y,true,[],mH,A2,uQ b3 o3 c3,c2,c3-1,0,n3-1,rfl,rfl,⟨by first | omega | rfl | (simp only [length_cons,length_nil];omega),by first | omega | rfl | (simp only [length_cons,length_nil];omega)⟩,dW.o,AE.o,AF.o,by rw [ik];rfl,.inr ⟨rfl,rfl,rfl⟩,.inl ⟨rfl,rfl⟩,.inr rfl,HI.o.rx,fun k hk=>hk,EH HI.o.ry (by have:=HI.o.ky;simpa using this),fun k hk=>Fi hk,HI.o.kx,by have:=HI.o.ky;simp only [length_cons] at this;omega⟩
    .rcases ys with _ | ⟨y,mH⟩
     .have nK:0<n2:=by rw [<-Hl.o.1];simp
      obtain rfl:n3=0:=Hl.o.2.1.symm;obtain ⟨b2,o2,Dv,aJ,a0,a1,a2,a3,a4,a5,a6,a7,a8,a9,dS,iK⟩:=MF HI.o.rx;subst Dv;have bO:=kp aJ;have I7:=kp (⟨a0,a1,a2,a3,a4,a5,a6,a7,a8,a9,dS,iK⟩:cC wr b2 o2 x);clear a0 a1 a2 a3 a4 a5 a6 a7 a8 a9 dS iK;obtain ⟨a0,a1,a2,a3,a4,a5,a6,a7,a8,a9,dS,iK⟩:=oO (jT.o.block _ bO.o) I7.o;go_wp2_with fail
      go_quiet (fail)
      go_upto_region 6 with fail
      clear a0 a1 a2 a3 a4 a5 a6 a7 a8 a9 dS iK;generalize dH:W2.drewN _=W3;have kE:=kp (show Below W2.heap.size W2 W3 by rw [<-dH];exact below_drewN (aq _ _) _);clear dH;have nQ:=kp (show Below wr.heap.size wr W3 from jT.o.trans (kE.o.mono (by rw [iJ];omega)));have mD:=kp (show aa W3.drew wr.heap.size 237 #[.int .i64 0,.int .i64 0,.int .i64 0,.int .i64 0,.int .i64 0,.int .i64 0,.int .i64 0,.int .i64 0,.int .i64 0,.int .i64 0,.int .i64 0,.int .i64 0,.bool false] from (bL.o.under kE.o).drew);have qG:=kp (show aa W3.drew (wr.heap.size+1) 237 #[.int .i64 0,.int .i64 0,.int .i64 0,.int .i64 0,.int .i64 0,.int .i64 0,.int .i64 0,.int .i64 0,.int .i64 0,.int .i64 0,.int .i64 0,.int .i64 0,.bool false] from (aV.o.under kE.o).drew);clear dk dN;obtain ⟨zD,fD⟩:=aa.rJ mD.o
      skip
      obtain ⟨Wf,bW⟩:∃Wf,aK W3.drew wr.heap.size 0 [.int .i64 x.key,.int .i64 x.child,.int .i64 x.ag.c,.int .i64 x.ag.s0,.int .i64 x.ag.n0,.int .i64 x.ag.x0,.int .i64 x.ag.s1,.int .i64 x.ag.n1,.int .i64 x.ag.x1,.int .i64 x.ag.s2,.int .i64 x.ag.n2,.int .i64 x.ag.x2,.bool true]=Wf:=⟨_,rfl⟩
      have AE:=kp (show aa Wf wr.heap.size 237 (hC x true) by rw [<-bW];exact eO mD.o _ rfl);have AF:=kp (show aa Wf (wr.heap.size+1) 237 (hC cO false) by rw [<-bW];exact (gu (by omega) _ _ _).trans qG.o);have dW:=kp (show Below wr.heap.size wr Wf by rw [<-bW];exact eU (by omega) _ _ _ nQ.o.drew);have yz:=kp (show ∀k,k<wr.heap.size->Wf.heap[k]? = W3.heap[k]? from fun k hk=>by rw [<-bW];exact gu (by omega) _ _ _);simp only [aK,Nat.zero_add,Nat.reduceAdd] at bW;have uG:=kp (oO (nQ.o.block _ bO.o) I7.o);obtain ⟨a0,a1,a2,a3,a4,a5,a6,a7,a8,a9,dS,iK⟩:=uG.o;clear mD qG kE nQ;have hsx:=Ft b2 o2 n2 c2 (by omega) (by rw [<-Hl.o.1];exact HI.o.kx);have ix:(0:Int)<(n2:Int):=by omega
      refine wp_region_noPanic ?_;refine dt (t:=99) (S:=(fun W=>(cC W b2 o2 x))) (by kernel_rfl) ⟨a0,a1,a2,a3,a4,a5,a6,a7,a8,a9,dS,iK⟩ (fun ad => ?_);generalize W3.drew=Wd at *;refine tD 0 1 2 3 ad ?_;refine tB 4 5 ad ?_;refine oT 6 fun K hK=>?_
      go_simp
      refine oK hK ?_ fun af=>?_
      .exact oO (yz.o _ bO.o) uG.o
      replace ad:=af;clear hK K af;refine tk 7 ad ?_;refine dY (by kernel_rfl) ?_ _
      try clear ad
      refine NoPanic.normal ?_;go_wp2_with fail
      go_meet
      have e1:=Hl.o.1;have e2:=Hl.o.2.1;simp only [length_cons,length_nil] at e1 e2;exact ⟨x,true,cO,false,nM,[],uQ b2 o2 c2,A3,c2-1,c3,n2-1,0,rfl,rfl,⟨by first | omega | rfl | (simp only [length_cons,length_nil];omega),by first | omega | rfl | (simp only [length_cons,length_nil];omega)⟩,dW.o,AE.o,AF.o,by rw [ik];rfl,.inl ⟨rfl,rfl⟩,.inr ⟨rfl,rfl,rfl⟩,.inl rfl,EH HI.o.rx (by have:=HI.o.kx;simpa using this),fun k hk=>Fi hk,HI.o.ry,fun k hk=>hk,by have:=HI.o.kx;simp only [length_cons] at this;omega,HI.o.ky⟩
     .have nK:0<n2:=by rw [<-Hl.o.1];simp
      have ej:0<n3:=by rw [<-Hl.o.2.1];simp
      obtain ⟨b2,o2,Dv,aJ,a0,a1,a2,a3,a4,a5,a6,a7,a8,a9,dS,iK⟩:=MF HI.o.rx;subst Dv;have bO:=kp aJ;have I7:=kp (⟨a0,a1,a2,a3,a4,a5,a6,a7,a8,a9,dS,iK⟩:cC wr b2 o2 x);clear a0 a1 a2 a3 a4 a5 a6 a7 a8 a9 dS iK;obtain ⟨b3,o3,KO,kj,d0,d1,d2,d3,d4,d5,d6,d7,d8,d9,dB,dC⟩:=MF HI.o.ry;subst KO;have yy:=kp kj;have I6:=kp (⟨d0,d1,d2,d3,d4,d5,d6,d7,d8,d9,dB,dC⟩:cC wr b3 o3 y);clear d0 d1 d2 d3 d4 d5 d6 d7 d8 d9 dB dC;obtain ⟨a0,a1,a2,a3,a4,a5,a6,a7,a8,a9,dS,iK⟩:=oO (jT.o.block _ bO.o) I7.o;obtain ⟨d0,d1,d2,d3,d4,d5,d6,d7,d8,d9,dB,dC⟩:=oO (jT.o.block _ yy.o) I6.o;have k5:((n3:Int) == (0:Int))=false:=by simp;omega
      have k6:((n2:Int) == (0:Int))=false:=by simp;omega
      have k7:decide ((0:Int)<(n2:Int))=true:=decide_eq_true (by omega);have ix:(0:Int)<(n2:Int):=by omega
      have iy:(0:Int)<(n3:Int):=by omega
      by_cases h1:x.key<y.key
      .have j1:decide (((x.key:Nat):Int)<((y.key:Nat):Int))=true:=decide_eq_true (by omega);go_wp2_with fail
       go_quiet (fail)
       go_upto_region 6 with fail
       clear a0 a1 a2 a3 a4 a5 a6 a7 a8 a9 dS iK d0 d1 d2 d3 d4 d5 d6 d7 d8 d9 dB dC;generalize dH:W2.drewN _=W3;have kE:=kp (show Below W2.heap.size W2 W3 by rw [<-dH];exact below_drewN (aq _ _) _);clear dH;have nQ:=kp (show Below wr.heap.size wr W3 from jT.o.trans (kE.o.mono (by rw [iJ];omega)));have mD:=kp (show aa W3.drew wr.heap.size 237 #[.int .i64 0,.int .i64 0,.int .i64 0,.int .i64 0,.int .i64 0,.int .i64 0,.int .i64 0,.int .i64 0,.int .i64 0,.int .i64 0,.int .i64 0,.int .i64 0,.bool false] from (bL.o.under kE.o).drew);have qG:=kp (show aa W3.drew (wr.heap.size+1) 237 #[.int .i64 0,.int .i64 0,.int .i64 0,.int .i64 0,.int .i64 0,.int .i64 0,.int .i64 0,.int .i64 0,.int .i64 0,.int .i64 0,.int .i64 0,.int .i64 0,.bool false] from (aV.o.under kE.o).drew);clear dk dN;obtain ⟨zD,fD⟩:=aa.rJ mD.o
       skip
       obtain ⟨Wf,bW⟩:∃Wf,aK W3.drew wr.heap.size 0 [.int .i64 x.key,.int .i64 x.child,.int .i64 x.ag.c,.int .i64 x.ag.s0,.int .i64 x.ag.n0,.int .i64 x.ag.x0,.int .i64 x.ag.s1,.int .i64 x.ag.n1,.int .i64 x.ag.x1,.int .i64 x.ag.s2,.int .i64 x.ag.n2,.int .i64 x.ag.x2,.bool true]=Wf:=⟨_,rfl⟩
       have AE:=kp (show aa Wf wr.heap.size 237 (hC x true) by rw [<-bW];exact eO mD.o _ rfl);have AF:=kp (show aa Wf (wr.heap.size+1) 237 (hC cO false) by rw [<-bW];exact (gu (by omega) _ _ _).trans qG.o);have dW:=kp (show Below wr.heap.size wr Wf by rw [<-bW];exact eU (by omega) _ _ _ nQ.o.drew);have yz:=kp (show ∀k,k<wr.heap.size->Wf.heap[k]? = W3.heap[k]? from fun k hk=>by rw [<-bW];exact gu (by omega) _ _ _);simp only [aK,Nat.zero_add,Nat.reduceAdd] at bW;have uG:=kp (oO (nQ.o.block _ bO.o) I7.o);obtain ⟨a0,a1,a2,a3,a4,a5,a6,a7,a8,a9,dS,iK⟩:=uG.o;clear mD qG kE nQ;have hsx:=Ft b2 o2 n2 c2 (by omega) (by rw [<-Hl.o.1];exact HI.o.kx);have ix:(0:Int)<(n2:Int):=by omega
       refine wp_region_noPanic ?_;refine dt (t:=99) (S:=(fun W=>(cC W b2 o2 x))) (by kernel_rfl) ⟨a0,a1,a2,a3,a4,a5,a6,a7,a8,a9,dS,iK⟩ (fun ad => ?_);generalize W3.drew=Wd at *;refine tD 0 1 2 3 ad ?_;refine tB 4 5 ad ?_;refine oT 6 fun K hK=>?_
       go_simp
       refine oK hK ?_ fun af=>?_
       .exact oO (yz.o _ bO.o) uG.o
       replace ad:=af;clear hK K af;refine tk 7 ad ?_;refine dY (by kernel_rfl) ?_ _
       try clear ad
       refine NoPanic.normal ?_;go_wp2_with fail
       go_meet
       have e1:=Hl.o.1;have e2:=Hl.o.2.1;simp only [length_cons,length_nil] at e1 e2;exact ⟨x,true,cO,false,nM,y::mH,uQ b2 o2 c2,some ⟨b3,o3,none⟩,c2-1,c3,n2-1,n3,rfl,rfl,⟨by first | omega | rfl | (simp only [length_cons,length_nil];omega),by first | omega | rfl | (simp only [length_cons,length_nil];omega)⟩,dW.o,AE.o,AF.o,by rw [ik,if_pos h1];rfl,.inl ⟨rfl,rfl⟩,.inr ⟨rfl,rfl,rfl⟩,.inl rfl,EH HI.o.rx (by have:=HI.o.kx;simpa using this),fun k hk=>Fi hk,HI.o.ry,fun k hk=>hk,by have:=HI.o.kx;simp only [length_cons] at this;omega,HI.o.ky⟩
      .have j1:decide (((x.key:Nat):Int)<((y.key:Nat):Int))=false:=decide_eq_false (by omega);by_cases h2:y.key<x.key
       .have j2:decide (((y.key:Nat):Int)<((x.key:Nat):Int))=true:=decide_eq_true (by omega);go_wp2_with fail
        go_quiet (fail)
        go_wp2_with fail
        go_quiet (fail)
        go_upto_region 8 with fail
        clear a0 a1 a2 a3 a4 a5 a6 a7 a8 a9 dS iK d0 d1 d2 d3 d4 d5 d6 d7 d8 d9 dB dC;generalize Cm:W2.drewN _=W3a;generalize dH:W3a.drewN _=W3;have kE:=kp (show Below W2.heap.size W2 W3 by rw [<-dH,<-Cm];exact below_drewN (below_drewN (aq _ _) _) _);clear Cm;clear dH;have nQ:=kp (show Below wr.heap.size wr W3 from jT.o.trans (kE.o.mono (by rw [iJ];omega)));have mD:=kp (show aa W3.drew wr.heap.size 237 #[.int .i64 0,.int .i64 0,.int .i64 0,.int .i64 0,.int .i64 0,.int .i64 0,.int .i64 0,.int .i64 0,.int .i64 0,.int .i64 0,.int .i64 0,.int .i64 0,.bool false] from (bL.o.under kE.o).drew);have qG:=kp (show aa W3.drew (wr.heap.size+1) 237 #[.int .i64 0,.int .i64 0,.int .i64 0,.int .i64 0,.int .i64 0,.int .i64 0,.int .i64 0,.int .i64 0,.int .i64 0,.int .i64 0,.int .i64 0,.int .i64 0,.bool false] from (aV.o.under kE.o).drew);clear dk dN
        skip
        obtain ⟨yD,gD⟩:=aa.rJ qG.o;obtain ⟨Wf,bW⟩:∃Wf,aK W3.drew (wr.heap.size+1) 0 [.int .i64 y.key,.int .i64 y.child,.int .i64 y.ag.c,.int .i64 y.ag.s0,.int .i64 y.ag.n0,.int .i64 y.ag.x0,.int .i64 y.ag.s1,.int .i64 y.ag.n1,.int .i64 y.ag.x1,.int .i64 y.ag.s2,.int .i64 y.ag.n2,.int .i64 y.ag.x2,.bool true]=Wf:=⟨_,rfl⟩
        have AE:=kp (show aa Wf wr.heap.size 237 (hC cO false) by rw [<-bW];exact (gu (by omega) _ _ _).trans mD.o);have AF:=kp (show aa Wf (wr.heap.size+1) 237 (hC y true) by rw [<-bW];exact eO qG.o _ rfl);have dW:=kp (show Below wr.heap.size wr Wf by rw [<-bW];exact eU (by omega) _ _ _ nQ.o.drew);have yz:=kp (show ∀k,k<wr.heap.size->Wf.heap[k]? = W3.heap[k]? from fun k hk=>by rw [<-bW];exact gu (by omega) _ _ _);simp only [aK,Nat.zero_add,Nat.reduceAdd] at bW;have AG:=kp (oO (nQ.o.block _ yy.o) I6.o);obtain ⟨d0,d1,d2,d3,d4,d5,d6,d7,d8,d9,dB,dC⟩:=AG.o;clear mD qG kE nQ;have hsy:=Ft b3 o3 n3 c3 (by omega) (by rw [<-Hl.o.2.1];exact HI.o.ky);have iy:(0:Int)<(n3:Int):=by omega
        refine wp_region_noPanic ?_;refine dt (t:=99) (S:=(fun W=>(cC W b3 o3 y))) (by kernel_rfl) ⟨d0,d1,d2,d3,d4,d5,d6,d7,d8,d9,dB,dC⟩ (fun ad => ?_);generalize W3.drew=Wd at *;refine tD 0 1 2 3 ad ?_;refine tB 4 5 ad ?_;refine oT 6 fun K hK=>?_
        go_simp
        refine oK hK ?_ fun af=>?_
        .exact oO (yz.o _ yy.o) AG.o
        replace ad:=af;clear hK K af;refine tk 7 ad ?_;refine dY (by kernel_rfl) ?_ _
        try clear ad
        refine NoPanic.normal ?_;go_wp2_with fail
        go_meet
        have e1:=Hl.o.1;have e2:=Hl.o.2.1;simp only [length_cons,length_nil] at e1 e2;exact ⟨cO,false,y,true,x::nM,mH,some ⟨b2,o2,none⟩,uQ b3 o3 c3,c2,c3-1,n2,n3-1,rfl,rfl,⟨by first | omega | rfl | (simp only [length_cons,length_nil];omega),by first | omega | rfl | (simp only [length_cons,length_nil];omega)⟩,dW.o,AE.o,AF.o,by rw [ik,if_neg h1,if_pos h2];rfl,.inr ⟨rfl,rfl,rfl⟩,.inl ⟨rfl,rfl⟩,.inr rfl,HI.o.rx,fun k hk=>hk,EH HI.o.ry (by have:=HI.o.ky;simpa using this),fun k hk=>Fi hk,HI.o.kx,by have:=HI.o.ky;simp only [length_cons] at this;omega⟩
       .have j2:decide (((y.key:Nat):Int)<((x.key:Nat):Int))=false:=decide_eq_false (by omega);go_wp2_with fail
        go_quiet (fail)
        go_wp2_with fail
        go_quiet (fail)
        go_upto_region 4 with fail
        clear a0 a1 a2 a3 a4 a5 a6 a7 a8 a9 dS iK d0 d1 d2 d3 d4 d5 d6 d7 d8 d9 dB dC;generalize Cm:W2.drewN _=W3a;generalize dH:W3a.drewN _=W3;have kE:=kp (show Below W2.heap.size W2 W3 by rw [<-dH,<-Cm];exact below_drewN (below_drewN (aq _ _) _) _);clear Cm;clear dH;have nQ:=kp (show Below wr.heap.size wr W3 from jT.o.trans (kE.o.mono (by rw [iJ];omega)));have mD:=kp (show aa W3.drew wr.heap.size 237 #[.int .i64 0,.int .i64 0,.int .i64 0,.int .i64 0,.int .i64 0,.int .i64 0,.int .i64 0,.int .i64 0,.int .i64 0,.int .i64 0,.int .i64 0,.int .i64 0,.bool false] from (bL.o.under kE.o).drew);have qG:=kp (show aa W3.drew (wr.heap.size+1) 237 #[.int .i64 0,.int .i64 0,.int .i64 0,.int .i64 0,.int .i64 0,.int .i64 0,.int .i64 0,.int .i64 0,.int .i64 0,.int .i64 0,.int .i64 0,.int .i64 0,.bool false] from (aV.o.under kE.o).drew);clear dk dN;obtain ⟨zD,fD⟩:=aa.rJ mD.o;obtain ⟨yD,gD⟩:=aa.rJ qG.o;obtain ⟨Wm,Lc⟩:∃Wm,aK W3.drew wr.heap.size 0 [.int .i64 x.key,.int .i64 x.child,.int .i64 x.ag.c,.int .i64 x.ag.s0,.int .i64 x.ag.n0,.int .i64 x.ag.x0,.int .i64 x.ag.s1,.int .i64 x.ag.n1,.int .i64 x.ag.x1,.int .i64 x.ag.s2,.int .i64 x.ag.n2,.int .i64 x.ag.x2,.bool true]=Wm:=⟨_,rfl⟩
        obtain ⟨Wf,bW⟩:∃Wf,aK Wm (wr.heap.size+1) 0 [.int .i64 y.key,.int .i64 y.child,.int .i64 y.ag.c,.int .i64 y.ag.s0,.int .i64 y.ag.n0,.int .i64 y.ag.x0,.int .i64 y.ag.s1,.int .i64 y.ag.n1,.int .i64 y.ag.x1,.int .i64 y.ag.s2,.int .i64 y.ag.n2,.int .i64 y.ag.x2,.bool true]=Wf:=⟨_,rfl⟩
        have HXm:=kp (show aa Wm wr.heap.size 237 (hC x true) by rw [<-Lc];exact eO mD.o _ rfl);have HYm:=kp (show aa Wm (wr.heap.size+1) 237 #[.int .i64 0,.int .i64 0,.int .i64 0,.int .i64 0,.int .i64 0,.int .i64 0,.int .i64 0,.int .i64 0,.int .i64 0,.int .i64 0,.int .i64 0,.int .i64 0,.bool false] by rw [<-Lc];exact (gu (by omega) _ _ _).trans qG.o);have AE:=kp (show aa Wf wr.heap.size 237 (hC x true) by rw [<-bW];exact (gu (by omega) _ _ _).trans HXm.o);have AF:=kp (show aa Wf (wr.heap.size+1) 237 (hC y true) by rw [<-bW];exact eO HYm.o _ rfl);clear yD gD;obtain ⟨yD,gD⟩:=aa.rJ HYm.o;have dW:=kp (show Below wr.heap.size wr Wf by rw [<-bW,<-Lc];exact eU (by omega) _ _ _ (eU (ah _) _ _ _ nQ.o.drew));have Vi:=kp (show ∀k,k<wr.heap.size->Wm.heap[k]? = W3.heap[k]? from fun k hk=>by rw [<-Lc];exact gu (by omega) _ _ _);have yz:=kp (show ∀k,k<wr.heap.size->Wf.heap[k]? = W3.heap[k]? from fun k hk=>by rw [<-bW];exact (gu (by omega) _ _ _).trans (Vi.o k hk));simp only [aK,Nat.zero_add,Nat.reduceAdd] at bW Lc;have uG:=kp (oO (nQ.o.block _ bO.o) I7.o);obtain ⟨a0,a1,a2,a3,a4,a5,a6,a7,a8,a9,dS,iK⟩:=uG.o;have AG:=kp (oO (nQ.o.block _ yy.o) I6.o);obtain ⟨d0,d1,d2,d3,d4,d5,d6,d7,d8,d9,dB,dC⟩:=AG.o;clear mD qG kE nQ;have hsx:=Ft b2 o2 n2 c2 (by omega) (by rw [<-Hl.o.1];exact HI.o.kx);have hsy:=Ft b3 o3 n3 c3 (by omega) (by rw [<-Hl.o.2.1];exact HI.o.ky);have ix:(0:Int)<(n2:Int):=by omega
        have iy:(0:Int)<(n3:Int):=by omega
        refine wp_region_noPanic ?_;refine dt (t:=99) (S:=(fun W=>(cC W b2 o2 x)/\(cC W b3 o3 y))) (by kernel_rfl) ⟨⟨a0,a1,a2,a3,a4,a5,a6,a7,a8,a9,dS,iK⟩,⟨d0,d1,d2,d3,d4,d5,d6,d7,d8,d9,dB,dC⟩⟩ (fun ad => ?_);generalize W3.drew=Wd at *;refine tD 0 1 2 3 ad ?_;refine tD 4 5 6 7 ad ?_;refine tD 8 9 10 11 ad ?_;refine oT 12 fun K hK=>?_
        go_simp
        refine oK hK ?_ fun af=>?_
        .exact ⟨oO (Vi.o _ bO.o) uG.o,oO (Vi.o _ yy.o) AG.o⟩
        replace ad:=af;clear hK K af;refine oT 13 fun K hK=>?_
        go_simp
        refine oK hK ?_ fun af=>?_
        .exact ⟨oO (yz.o _ bO.o) uG.o,oO (yz.o _ yy.o) AG.o⟩
        replace ad:=af;clear hK K af;refine tB 14 15 ad ?_;refine dY (by kernel_rfl) ?_ _
        try clear ad
        refine NoPanic.normal ?_;go_wp2_with fail
        go_meet
        have e1:=Hl.o.1;have e2:=Hl.o.2.1;simp only [length_cons,length_nil] at e1 e2;exact ⟨x,true,y,true,nM,mH,uQ b2 o2 c2,uQ b3 o3 c3,c2-1,c3-1,n2-1,n3-1,rfl,rfl,⟨by first | omega | rfl | (simp only [length_cons,length_nil];omega),by first | omega | rfl | (simp only [length_cons,length_nil];omega)⟩,dW.o,AE.o,AF.o,by rw [ik,if_neg h1,if_neg h2];rfl,.inl ⟨rfl,rfl⟩,.inl ⟨rfl,rfl⟩,.inl rfl,EH HI.o.rx (by have:=HI.o.kx;simpa using this),fun k hk=>Fi hk,EH HI.o.ry (by have:=HI.o.ky;simpa using this),fun k hk=>Fi hk,by have:=HI.o.kx;simp only [length_cons] at this;omega,by have:=HI.o.ky;simp only [length_cons] at this;omega⟩
   case rest =>
    obtain ⟨x,b,y,b',nM,mH,Eo,Ep,BS,I5,m2,m3,rfl,rfl,hm,hk⟩:=hcut;have Hk:=kp hk;have Hm:=kp hm;have hx:b=false->x=cO:=fun e=>by
     rcases hk.ox with ⟨h,_⟩ | ⟨_,h,_⟩
     .rw [h] at e;cases e
     .exact h
    have hy:b'=false->y=cO:=fun e=>by
     rcases hk.oy with ⟨h,_⟩ | ⟨_,h,_⟩
     .rw [h] at e;cases e
     .exact h
    have jM:=HI.o.run;rw [hk.zip] at jM;unfold uH at jM;obtain ⟨q,hq,zP⟩:=Option.bind_eq_some_iff.1 jM;dsimp only at hq zP;rw [ZZ hx,ZZ hy] at hq;have JY:eX x.ag:=by
     rcases hk.ox with ⟨_,h⟩ | ⟨_,h,_⟩
     .exact HI.o.gx x (by rw [h];exact mem_cons_self)
     .rw [h];exact Fe
    have hgy:eX y.ag:=by
     rcases hk.oy with ⟨_,h⟩ | ⟨_,h,_⟩
     .exact HI.o.gy y (by rw [h];exact mem_cons_self)
     .rw [h];exact Fe
    have ee:=kp (HC.o F1 pC pE pF uF (max x.key y.key) x b y b' wc q (HI.o.dy.below hk.bJ) hx hy JY hgy (HI.o.wok _ (by rw [hk.zip];exact mem_cons_self)) hq (Hp.o.of (Qw HE.o _ _ _ zP)));have adV:=kp zP;obtain ⟨a0,a1,a2,a3,a4,a5,a6,a7,a8,a9,dS,iK,DK⟩:=(aa.rJ hk.bx).1;obtain ⟨d0,d1,d2,d3,d4,d5,d6,d7,d8,d9,dB,dC,gB⟩:=(aa.rJ hk.by_).1;have a3V:m2+m3<n2+n3/\(∀z∈nM,z∈xs)/\(∀z∈mH,z∈ys)/\nM.length<=xs.length/\mH.length<=ys.length:=by
     have e1:=Hl.o.1;have e2:=Hl.o.2.1;have e3:=hm.1;have e4:=hm.2;rcases hk.ox with ⟨_,h⟩ | ⟨hb,_,h⟩
     .subst h;rw [length_cons] at e1;rcases hk.oy with ⟨_,h'⟩ | ⟨_,_,h'⟩
      .subst h';rw [length_cons] at e2;exact ⟨by omega,fun z hz=>mem_cons_of_mem _ hz,fun z hz=>mem_cons_of_mem _ hz,by simp,by simp⟩
      .subst h';exact ⟨by omega,fun z hz=>mem_cons_of_mem _ hz,fun z hz=>hz,by simp,ah _⟩
     .subst h;rcases hk.oy with ⟨_,h'⟩ | ⟨jc,_,h'⟩
      .subst h';rw [length_cons] at e2;exact ⟨by omega,fun z hz=>hz,fun z hz=>mem_cons_of_mem _ hz,ah _,by simp⟩
      .rcases hk.any with h1 | h1
       .rw [hb] at h1;cases h1
       .rw [jc] at h1;cases h1
    have I8:=kp a3V;have adW:max ((x.key:Nat):Int) ((y.key:Nat):Int)=((max x.key y.key:Nat):Int):=by omega
    have cz:n9+1<1048576*64:=by have:=HI.o.mU;have:=Hl.o.2.2;omega
    clear hk hm hx hy jM hq zP JY hgy a3V bL aV jT iJ dk dN fe qp qp2 q4 hw Lb;go_wp2_with fail;refine ee.o.mono ?_;rintro e w5 ⟨pG,pH,j9,rfl,mC⟩;have Gm:=(HI.o.mv.below Hk.o.bJ).trans mC.mv;have SJ:∀k,F1 k->k<wr.heap.size:=HI.o.dy.o.dV;have x7:=jG.mv mC.mv (HI.o.loc.below Hk.o.bJ);have fg:∀ {A:OA} {l:List Cl},Row wr wr.heap.size A (l.flatMap bT)->(∀k,eo A (l.flatMap bT) k->¬F1 k/\k<w.heap.size)->Row w5 w5.heap.size A (l.flatMap bT)/\∀k,eo A (l.flatMap bT) k->¬more F1 wc w5 k/\k<w.heap.size:=fun hr hf=>by
     obtain ⟨k1,k2⟩:=mC.mv.row ((hr.below Hk.o.bJ).more Hk.o.bJ.size) (fun k hk=>(hf k hk).1);exact ⟨k1,fun k hk=>⟨k2 k hk,(hf k hk).2⟩⟩
    have Vj:=kp (fg Hk.o.rx (fun k hk=>HI.o.fx k (Hk.o.fx k hk)));have Vk:=kp (fg Hk.o.ry (fun k hk=>HI.o.fy k (Hk.o.fy k hk)));have BX:=kp Gm;have BY:=kp x7;have Hd5:=kp mC;have cP:=kp (show w5.ownsRow w.heap.size 98 12 (.slice A9 n9 c9) n9 (cs.flatMap bT) by have:=x7.own;rw [Hl.o.2.2] at this;exact this);have zJ:=kp (show w.heap.size<=w5.heap.size from Gm.bU.size);generalize q.2=cx at *;clear mC Gm x7 fg SJ ee a0 a1 a2 a3 a4 a5 a6 a7 a8 a9 dS iK DK d0 d1 d2 d3 d4 d5 d6 d7 d8 d9 dB dC gB adW
    go_wp2_with (at_builtin;refine vG rfl (.tmp 92) (.tmp 99) 164 rfl w.heap.size 98 i0 _ 12 96 Tryz.underlying164 cG cI cH cJ rfl (by decide) w5 (bQ cx) rfl (M3 cx) (.slice A9 n9 c9) n9 (cs.flatMap bT) rfl cP.o rfl cz (by decide) zJ.o ?_;intro v6 w6 iL jE;obtain ⟨A6,c6,h6⟩:=eM iL;subst h6;have gR:=kp iL;have lK:=kp jE;clear iL jE)
    go_roundg (m2+m3)
    case measure=>exact I8.o.1
    case rel =>
     have vh:∀ {A:OA} {l:List Cl},(∀k,eo A (l.flatMap bT) k->¬more F1 wc w5 k/\k<w.heap.size)->Row w5 w5.heap.size A (l.flatMap bT)->Row w6 w6.heap.size A (l.flatMap bT):=fun hf hr=>(pL hr (fun k hk=>lK.o.de (Row.cW hr hk) (fun e=>by have:=(cP.o.lt k e).1;have:=(hf k hk).2;omega))).more lK.o.grown.size
     have OW:=Hd5.o.dy.app lK.o (fun k hk=>⟨by have:=(cP.o.lt k hk).1;have:=a3U.o.2;omega,by have:=(cP.o.lt k hk).1;have:=a3U.o.1;omega,BY.o.off k (by rw [Hl.o.2.2];exact hk)⟩);refine ⟨Eo,Ep,A6,BS,I5,c6,m2,m3,n9+1,nM,mH,cs++[cx],more F1 wc w5,pG,pH,j9,q.1,rfl,rfl,rfl,rfl,⟨Hm.o.1,Hm.o.2,by rw [aS,Hl.o.2.2];rfl⟩,?_⟩;have aX:(cs++[cx]).length=n9+1:=by rw [aS,Hl.o.2.2];rfl
     exact ⟨BX.o.app lK.o (fun k hk=>(cP.o.lt k hk).1),OW,by rw [aX];exact jG.app (by rw [<-Hl.o.2.2];exact BY.o) gR.o lK.o Hl.o.2.2 Hd5.o.dy.o.dV,vh Vj.o.2 Vj.o.1,Vj.o.2,vh Vk.o.2 Vk.o.1,Vk.o.2,Hk.o.kx,Hk.o.ky,fun z hz=>HI.o.gx z (I8.o.2.1 z hz),fun z hz=>HI.o.gy z (I8.o.2.2.1 z hz),aT I8.o.2.2.2.1 HI.o.nx,aT I8.o.2.2.2.2 HI.o.ny,by
      rw [aX];have h1:=HI.o.mU;have h2:=I8.o.1;have h3:=Hl.o;have h4:=Hm.o
      omega,fun h hh=>HI.o.wok h (by rw [Hk.o.zip];exact mem_cons_of_mem _ hh),adV.o⟩
def a1c (n:Nd) (t:Nat) (w:World) (e:Ending) (w':World):Prop:=∃ (A:OA) (l:List Cl) (k:Nat),e = .returned (.slice A l.length k)/\l=((az n).lists[t]?).getD []/\((∃x∈n.ls,x.A=A/\x.cs=l/\x.c=k)\/(A=none/\l=[]))/\Below w.heap.size w w'
theorem a0J (n:Nd) (t:Nat) (w:World) (h:dp w w.heap.size n) (hn:n.ls.length<=1000000) (ht:t<=1000000) :
 Calls Tryz.prog 127 #[.agg (bG n),.int .i64 (t:Nat)] w (a1c n t w):=by
 have au:=(aq w.heap.size w).alloc (ah _) (.cells (bG n) 100);have HB:=kp (aa.new w 100 (bG n));have ay:=kp au;have HA:=kp ((h.below au).more au.size);generalize hQ:a1c n t w=Q;by_cases ae:t<n.ls.length
 .have HQ:=kp (show ∀w',Below w.heap.size w w'->Q (.returned (fi n.ls[t])) w' from fun w' hb=>by
   rw [<-hQ];refine ⟨n.ls[t].A,n.ls[t].cs,n.ls[t].c,rfl,?_,.inl ⟨_,gM ae,rfl,rfl,rfl⟩,hb⟩;show _=((n.ls.map Ll.cs)[t]?).getD [];rw [getElem?_map,gE ae]
   rfl)
  obtain ⟨b,off,hA,hb,c0⟩:=Row.at_ HA.o.row (k:=t) (by rw [lM];exact ae);rw [getElem_map] at c0;generalize fi n.ls[t]=v at *;obtain ⟨d,nA,ls,nc,⟨ck,cc,uD⟩⟩:=n;dsimp only at hA ae hn;subst hA;dsimp only [bG] at HB ay c0 ⊢;obtain ⟨nl,oF⟩:∃nl,ls.length=nl:=⟨_,rfl⟩
  rw [oF] at ae hn HB ay c0 ⊢;clear au h HA hQ oF;obtain ⟨⟨_,z1,_⟩,_⟩:=aa.cw HB.o;clear HB;generalize w.alloc _=W0 at *;have q1:decide ((t:Int)<(nl:Int))=true:=decide_eq_true (by omega);have i0:(0:Int)<=(t:Int):=by omega
  have i1:(t:Int)<(nl:Int):=by omega
  go_enter Tryz.func127,Tryz.ntmps127;go_wp2_with fail;exact HQ.o _ ay.o
 .have HQ:=kp (show ∀w',Below w.heap.size w w'->Q (.returned (.slice none 0 0)) w' from fun w' hb=>by
   rw [<-hQ];refine ⟨none,[],0,rfl,?_,.inr ⟨rfl,rfl⟩,hb⟩;show _=((n.ls.map Ll.cs)[t]?).getD [];rw [getElem?_eq_none (by rw [lM];omega)]
   rfl)
  obtain ⟨d,nA,ls,nc,⟨ck,cc,uD⟩⟩:=n;dsimp only at ae hn;dsimp only [bG] at HB ay ⊢;obtain ⟨nl,oF⟩:∃nl,ls.length=nl:=⟨_,rfl⟩
  rw [oF] at ae hn HB ay ⊢;clear au h HA hQ oF;obtain ⟨⟨_,z1,_⟩,_⟩:=aa.cw HB.o;clear HB;have q1:decide ((t:Int)<(nl:Int))=false:=decide_eq_false (by omega);have q2:¬ (t:Int)<(nl:Int):=by omega
  go_enter Tryz.func127,Tryz.ntmps127;go_wp2_with fail;exact HQ.o _ ay.o
end Go.Proofs.YtjopcamkclndlaaGreat.Tc
namespace Go.Proofs.YtjopcamkclndlaaGreat.Tc
open List Go.RowKit Base Go.Maps Go.WideMaps
theorem ab2 {w:World} {g:Nat} {pairs:List (Int×Int)} {p:Int×Int} (h:vM w g pairs) (hp:mM p):(Instr.lookup 177 (.map (some g)) (pV p) true).run Tryz.prog w = .ok (.tuple #[.int .i64 (((kX p pairs).getD 0:Nat):Int),.bool (kX p pairs).isSome]) w:=by
 obtain ⟨D,aE,br⟩:=h;obtain ⟨v,ps,jM,hv⟩:=aE.look_ok QO Tryz.underlying177 (tN w) (plainElem_int Tryz.underlying3 (by decide)) (PL p hp);obtain ⟨c,rfl,hc,_⟩:=plainElem_int_inv Tryz.underlying3 hv;have h1:=br.at_ p hp;have h2:=congrArg Prod.fst hc;dsimp only at h2;rw [h1] at h2;injection h2 with h2
 injection h2 with _ h2
 rw [jM,<-h2,br.has p hp]
theorem a8t {w:World} {g:Nat} {pairs:List (Int×Int)} {p:Int×Int} (h:vM w g pairs) (hp:mM p) (hn:kX p pairs=none) (hl:pairs.length<=1000000) :
 ∃w',(Instr.mapUpdate 177 (.map (some g)) (pV p) (.int .i64 ((pairs.length:Nat):Int))).run Tryz.prog w = .ok () w'/\vM w' g (pairs++[p])/\w.grownBy w' (some g):=by
 obtain ⟨D,aE,br⟩:=h;obtain ⟨w',jM,ho,hg⟩:=aE.update QO Tryz.underlying177 (show pairs.length<maxLen by unfold maxLen;omega) (PL p hp) (plainElem_int Tryz.underlying3 (show (Lit.int .i64 ((pairs.length:Nat):Int)).wf=true from WalkArith.wf_i64 (by omega)));refine ⟨w',jM,⟨_,?_,br.put PL QO hp hn⟩,hg⟩;rw [aS];exact ho
end Go.Proofs.YtjopcamkclndlaaGreat.Tc
