/- Parts. -/
import Derived.Test.YtibjlpkpljnicaaGreatDoorR16
import Derived.Test.YtibjlpkpljnicaaGreatDoorR22
set_option maxRecDepth 100000
set_option maxHeartbeats 8000000
set_option linter.all false
namespace Go.Proofs.YtibjlpkpljnicaaGreatDoor
namespace Tc
open List Go.RowKit Base Go.Maps Go.WideMaps Go.Proofs.Tryz
def oX(p:Nat×LN):Prop:=p.1<256/\∀i∈p.2,i<65536
def QV{a b}(d:a<256)(c:b<256)(h:UInt8.ofNat a=UInt8.ofNat b):a=b:=by
 have:=congrArg UInt8.toNat h;simp at this;omega
def MU{a b}(e:a<65536)(f:b<65536)(h1:UInt8.ofNat (a / 256)=UInt8.ofNat (b / 256))(h2:UInt8.ofNat a=UInt8.ofNat b):a=b:=by
 have d:=congrArg UInt8.toNat h1;have c:=congrArg UInt8.toNat h2;simp at d c;omega
def CE:∀{x y:LN},(∀i∈x,i<65536)->(∀i∈y,i<65536)->(x.flatMap λi=>[UInt8.ofNat (i / 256),UInt8.ofNat i])=(y.flatMap λi=>[UInt8.ofNat (i / 256),UInt8.ofNat i])->x=y
 | [],[],_,_,_=>rfl
 | [],b::y,_,_,h=>by grind
 |a::x,[],_,_,h=>by grind
 |a::x,b::y,hx,c,h=>by
  rw[flatMap_cons,flatMap_cons]at h;injection h with h1 h
  injection h with h2 h
  have e:=MU (hx a mem_cons_self) (c b mem_cons_self) h1 h2;have d:=CE (λi hi=>hx i (mem_cons_of_mem _ hi)) (λi hi=>c i (mem_cons_of_mem _ hi)) h;rw[e,d]
def CC{p q:Nat×LN}(c:oX p)(b:oX q)(h:gL p.1 p.2=gL q.1 q.2):p=q:=by
 unfold gL at h;injection h with h1 h2;exact Prod.ext (QV c.1 b.1 h1) (CE c.2 b.2 h2)
abbrev rE(p:Nat×LN):Lit:= .string (gL p.1 p.2)
structure nN(D:DataW Unit)(parts:List (Nat×LN)):Prop where
 map:IsMap D
 at_:∀p,oX p->D.atKey (rE p) (.lit (.int .i64 0)) = .lit (.int .i64 (((fr p.1 p.2 parts).getD 0:Nat):Int))
 has:∀p,oX p->Maps.has D (rE p)=(fr p.1 p.2 parts).isSome
def nN.nil:nN (.map []:DataW Unit) []:=⟨isMap_empty,λp _=>rfl,λp _=>rfl⟩
def Bh{parts}{p:Nat×LN}(h:fr p.1 p.2 parts=none):fr p.1 p.2 (parts++[p])=some parts.length:=by
 unfold fr at*;grind
def Bg{parts}{p q:Nat×LN}(h:q≠p):fr q.1 q.2 (parts++[p])=fr q.1 q.2 parts:=by
 unfold fr;grind
def nN.put{D parts}(h:nN D parts){p:Nat×LN}(f:oX p)(d:fr p.1 p.2 parts=none):nN (D.put (rE p) (.lit (.int .i64 ((parts.length:Nat):Int)))) (parts++[p]):=by
 have hk:WideAt.IsKeyLit (rE p):=trivial;refine⟨h.map.put _ _,λq b=> ?_,λq b=> ?_⟩
 .by_cases e:q=p
  .subst e;rw[atKey_put_same h.map hk,Bh d];rfl
  .rw[atKey_put_other (λc=>e (CC b f r_)),Bg e];exact h.at_ q b
 .by_cases e:q=p
  .subst e;rw[has_put_same h.map hk,Bh d];rfl
  .rw[has_put_other (λc=>e (CC b f r_)),Bg e];exact h.has q b
def mc(w:World)(g:Nat)(parts:List (Nat×LN)):Prop:=∃D:DataW Unit,w.ownsMap prog 9 (plainElem prog 3) g parts.length D/\nN D parts
def mc.lt{w g parts}(h:mc w g parts):g<w.heap.size:=by
 obtain⟨D,h1,_⟩:=h;exact h1.lt
def mc.same{w w' g parts}(h:mc w g parts)(c:w'.heap[g]? = w.heap[g]?):mc w' g parts:=by
 obtain⟨D,⟨d,cl,h1,h2⟩,b⟩:=h;exact⟨D,⟨d,_,c.trans h1,h2⟩,b⟩
structure Bc where
 B:Nat
 gb:Nat
 ga:Nat
 gm:Nat
 Af:OA
 fs:List Fa
 cf:Nat
 Al:OA
 rs:List Rn
 cl:Nat
 As:OA
 xs:List Fa
 cs:Nat
 m:Nat
 most:Nat
def Bc.ps(b:Bc):List (LN×Ag):=aw b.fs
def Bc.aL(b:Bc):List (List LN):=b.rs.map λr=>r.fs.map Fa.keys
def Bc.X(b:Bc):List LN:=b.xs.map Fa.keys
structure Bc.Ok(b:Bc):Prop where
 cfg:lv b.ps b.aL b.X b.m
 fit:∀f∈b.fs,cB f.ag
 most:b.most<=1000000
 bB:b.gb<b.B
 aB:b.ga<b.B
 mB:b.gm<b.B
 ba:b.gb≠b.ga
 bm:b.gb≠b.gm
 am:b.ga≠b.gm
def Bc.own(b:Bc)(k:Nat):Prop:=k=b.gb\/k=b.ga\/k=b.gm
structure Bc.Ro(b:Bc)(w:World):Prop where
 facts:bM w b.B b.Af b.fs
 aL:jr w b.B b.Al b.rs
 shape:cG w b.B b.As b.xs
 ff:∀k,cz b.Af b.fs k->¬b.own k
 fl:∀k,tq b.Al b.rs k->¬b.own k
 fx:∀k,cz b.As b.xs k->¬b.own k
def Bc.Ro.same{b:Bc}{w w'}(h:b.Ro w)(c:∀k,k<b.B->¬b.own k->w'.heap[k]? = w.heap[k]?):b.Ro w':=
 ⟨h.facts.same (λk hk=>c k (h.facts.bU hk) (h.ff k hk)),h.aL.same (λk hk=>c k (h.aL.bU hk) (h.fl k hk)),h.shape.same (λk hk=>c k (h.shape.bU hk) (h.fx k hk)),h.ff,h.fl,h.fx⟩
def cE(A:OA)(b:LV)(k:Nat):Prop:=b≠[]/\∃off,A=some ⟨k,off,none⟩
def mE(n:Nd)(k:Nat):Prop:=cE n.A (n.ls.map dq) k\/∃l∈n.ls,cE l.A (l.cs.flatMap ch) k
structure Bc.Dy(b:Bc)(w:World)(F:Nat->Prop)(An:OA)(cn:Nat)(nds:List Nd)(st:St)(err:Nat):Prop where
 line:b.B<=w.heap.size
 fF:∀k,F k->b.B<=k\/b.own k
 fo:∀k,b.own k->F k
 fY:∀k,F k->k<w.heap.size
 fm:aa w b.gb 143 #[U b.Af b.fs.length b.cf,U b.Al b.rs.length b.cl,Y b.ga 0,.map (some b.gm),N err]
 nT:aa w b.ga 217 (eV b.As b.xs.length b.cs b.m An nds.length cn b.most)
 nodes:ep w b.B (U An nds.length cn) nds
 mw:∀k,(Value.slice An nds.length cn).ownBlock=some k->F k
 lJ:∀n∈nds,∀k,mE n k->F k
 plain:nds.map aK=st.nodes
 most:nds.length<=b.most
 len:st.parts.length=st.nodes.length
 met:mc w b.gm st.parts
def more(F:Nat->Prop)(w w':World)(k:Nat):Prop:=F k\/(w.heap.size<=k/\k<w'.heap.size)
structure Kept(F:Nat->Prop)(w w':World):Prop where
 size:w.heap.size<=w'.heap.size
 block:∀k,F k->k<w.heap.size->w'.heap[k]? = w.heap[k]?
def Kept.trans{F a b c}(h:Kept F a b)(k:Kept F b c):Kept F a c:=⟨aF h.size k.size,λi hi d=>(k.block i hi (bh d h.size)).trans (h.block i hi d)⟩
def Kept.below{F w w'}(b:E w w'):Kept F w w':=⟨b.size,λk _ hk=>b.block k hk⟩
def Kept.set{F} w p u(b:¬F p.block):Kept F w (w.setCell p u):=⟨s_,λk hk _=>Below.heap_setCell w p u k (λe=>b (e▸hk))⟩
def Kept.app{F w w' v c}(h:App w w' v c)(b:∀k,v.ownBlock=some k->¬F k):Kept F w w':=⟨h.grown.size,λk hk d=>h.bI d (λe=>b k e hk)⟩
def fO{w w' B A c}(h:Row w B A c)(d:∀k,cE A c k->w'.heap[k]? = w.heap[k]?):Row w' B A c:=mI h (λk off e b=>d k ⟨b,_,e⟩)
def Row.bU{w B A f}(h:Row w B A f){k}(hk:cE A f k):k<B:=by
 obtain⟨c,off,e⟩:=hk;obtain h0|⟨m,d,b,n,_⟩:=h
 .grind
 grind
def fN{w w':World}{B e sz n v xs}(h:w.ownsRow B e sz v n xs)(c:∀k,v.ownBlock=some k->w'.heap[k]? = w.heap[k]?):w'.ownsRow B e sz v n xs:=by
 obtain⟨h1,h2⟩:=h;refine⟨h1,?_⟩;obtain h2|⟨g,cap,cur,e,d,b,r⟩:=h2
 .grind
 .exact .inr ⟨g,_,_,e,d,(c g (by rw[e];rfl)).trans b,r⟩
def sN{w w' v A b}(h:Ap w v A b)(d:w.heap.size<=w'.heap.size)(c:∀k,cE A b k->w'.heap[k]? = w.heap[k]?):Ap w' v A b:=⟨(fO h.1 c).more d,h.2⟩
def Bc.Dy.keep{b:Bc}{w w':World}{F:Nat->Prop}{g:OA}{p:Nat}{e:List Nd}{st:St}{err:Nat}(h:b.Dy w F g p e st err)(hk:Kept F w w'):b.Dy w' F g p e st err where
 line:=aF h.line hk.size;fF:=h.fF;fo:=h.fo;fY:=λk d=>bh (h.fY k d) hk.size;fm:=(hk.block b.gb (h.fo _ (.inl rfl)) h.fm.lt).trans h.fm;nT:=(hk.block b.ga (h.fo _ (.inr (.inl rfl))) h.nT.lt).trans h.nT;nodes:=⟨fN h.nodes.1 (λk m=>hk.block k (h.mw k m) (h.nodes.1.lt k m).2),λn c=>⟨⟨sN (h.nodes.2 n c).1.1 hk.size (λk d=>hk.block k (h.lJ n c k (.inl d)) (h.fY k (h.lJ n c k (.inl d)))),
  λl f=>sN ((h.nodes.2 n c).1.2 l f) hk.size (λk d=>hk.block k (h.lJ n c k (.inr ⟨l,f,d⟩)) (h.fY k (h.lJ n c k (.inr ⟨l,f,d⟩))))⟩,(h.nodes.2 n c).2⟩⟩
 mw:=h.mw;lJ:=h.lJ;plain:=h.plain;most:=h.most;len:=h.len;met:=h.met.same (hk.block b.gm (h.fo _ (.inr (.inr rfl))) h.met.lt)
def Bc.Dy.wide{b:Bc}{w F d f g c st err}(h:b.Dy w F f g c st err)(e:∀k,F k->d k)(h1:∀k,d k->b.B<=k\/b.own k)(h2:∀k,d k->k<w.heap.size):b.Dy w d f g c st err:=
 ⟨h.line,h1,λk hk=>e k (h.fo k hk),h2,h.fm,h.nT,h.nodes,λk hk=>e k (h.mw k hk),λn m k hk=>e k (h.lJ n m k hk),h.plain,h.most,h.len,h.met⟩
end Tc
end Go.Proofs.YtibjlpkpljnicaaGreatDoor
