/- TopMerge holds for every input: the cubes of a batch's parts, however it is cut, merged two by two, are the cube of the whole batch, node by node and byte by byte; it is sound, and its nodes stand in their order. No condition. -/
import Derived.Test.YtjopcamkclndlaaGreatH017
import Derived.Test.YtjopcamkclndlaaGreatH018
import Derived.Shelf.Strings.Builder1
import Derived.Lib.AppendStr
import Derived.Lib.Builder
import Derived.ChangeArms
set_option linter.unusedVariables false
set_option linter.unusedSimpArgs false
set_option maxRecDepth 100000
set_option maxHeartbeats 8000000
namespace Go.Proofs
open List Go.Shelf
def Tryz.a8o:Go.Shelf.Ren:=⟨fun | 170=>50 | n=>n,fun | 70=>113 | 3=>3 | 0=>0 | 72=>116 | 37=>114 | 5=>5 | n=>n,fun | n=>n⟩
theorem Tryz.a7t:Go.Proofs.Lays.n170 Tryz.prog Tryz.a8o:={
 mixed:=by kernel_rfl
 f170:=Tryz.func50.trans (congrArg some (by kernel_rfl))
 t0:=Tryz.underlying0
 a0:=Tryz.isAgg0
 z0:=Tryz.sizeOf0
 v0:=Tryz.zeroValue0
 t3:=Tryz.underlying3
 a3:=Tryz.isAgg3
 z3:=Tryz.sizeOf3
 v3:=Tryz.zeroValue3
 t37:=Tryz.underlying114
 a37:=Tryz.isAgg114
 z37:=Tryz.sizeOf114
 v37:=Tryz.zeroValue114
 t70:=Tryz.underlying113
 a70:=Tryz.isAgg113
 z70:=Tryz.sizeOf113
 v70:=Tryz.zeroValue113
 t72:=Tryz.underlying116
 a72:=Tryz.isAgg116
 z72:=Tryz.sizeOf116
 v72:=Tryz.zeroValue116 }
open List Go.RowKit in
theorem Tryz.Builder_Len (B b:Nat) (bs:List Value) (w:World) (h:Lib.IsBuilder 116 5 B b bs w) :
 Calls Tryz.prog 50 #[.pointer (some ⟨b,0,none⟩)] w fun e w'=>e = .returned (.int .i64 bs.length)/\w'=w:=Any.Builder_Len Tryz.a7t B b bs w h
def Tryz.XB:Go.Shelf.Ren:=⟨fun | 169=>52 | n=>n,fun | 70=>113 | 9=>9 | 0=>0 | 72=>116 | 37=>114 | 127=>203 | 3=>3 | 5=>5 | n=>n,fun | n=>n⟩
theorem Tryz.a6A:Go.Proofs.Lays.n169 Tryz.prog Tryz.XB:={
 mixed:=by kernel_rfl
 f169:=Tryz.func52.trans (congrArg some (by kernel_rfl))
 t0:=Tryz.underlying0
 a0:=Tryz.isAgg0
 z0:=Tryz.sizeOf0
 v0:=Tryz.zeroValue0
 t3:=Tryz.underlying3
 a3:=Tryz.isAgg3
 z3:=Tryz.sizeOf3
 v3:=Tryz.zeroValue3
 t9:=Tryz.underlying9
 a9:=Tryz.isAgg9
 z9:=Tryz.sizeOf9
 v9:=Tryz.zeroValue9
 t37:=Tryz.underlying114
 a37:=Tryz.isAgg114
 z37:=Tryz.sizeOf114
 v37:=Tryz.zeroValue114
 t70:=Tryz.underlying113
 a70:=Tryz.isAgg113
 z70:=Tryz.sizeOf113
 v70:=Tryz.zeroValue113
 t72:=Tryz.underlying116
 a72:=Tryz.isAgg116
 z72:=Tryz.sizeOf116
 v72:=Tryz.zeroValue116
 t127:=Tryz.underlying203
 a127:=Tryz.isAgg203
 z127:=Tryz.sizeOf203
 v127:=Tryz.zeroValue203 }
theorem Tryz.a6l:Builder.Extra Tryz.prog Tryz.XB:={
 sizeBuilder:=by kernel_rfl
 liesBuilder:=by kernel_rfl
 t5:=Tryz.underlying5
 a5:=Tryz.isAgg5
 z5:=Tryz.sizeOf5
 v5:=Tryz.zeroValue5
 infoByte:=by kernel_rfl
 cellsByte:=by kernel_rfl
 sizeByte:=by kernel_rfl
 neB5:=by decide }
open List Go.RowKit in
theorem Tryz.Builder_String_any (B b:Nat) (l:List UInt8) (w:World) (h:Lib.IsBuilder 116 5 B b (Lib.byteCells l) w) (O9:B<=w.heap.size) :
 Calls Tryz.prog 52 #[.pointer (some ⟨b,0,none⟩)] w fun e w'=>e = .returned (.string ⟨l.toArray⟩)/\Below B w w':=Any.Builder_String_any Tryz.a6A Tryz.a6l B b l w h O9
end Go.Proofs
namespace Go.Proofs.YtjopcamkclndlaaGreat.Tc
open List Go.RowKit Base
abbrev TB:TypeId:=116
structure Bd (w:World) (b D:Nat) (p v:Value) (bs:LV):Prop where
 ptr:p = .pointer none\/p = .pointer (some ⟨b,0,none⟩)
 lt:b<D
 box:aa w b TB #[p,v]
 own:w.ownsRow D 5 1 v bs.length bs
theorem Bd.is {w:World} {b D:Nat} {p v:Value} {bs:LV} (h:Bd w b D p v bs):Lib.IsBuilder TB 5 b b bs w:=by
 have av:v.ownBlock≠some b:=fun e=>by have:=(h.own.lt b e).1;have:=h.lt;omega
 have ho:=nX h.own (Nat.le_of_lt h.lt);rcases h.ptr with e | e
 .exact .inl ⟨ah _,v,by rw [<-e];exact h.box,ho,av⟩
 .exact .inr ⟨ah _,v,by rw [<-e];exact h.box,ho,av⟩
theorem Bd.kept {w w':World} {b D:Nat} {p v:Value} {bs:LV} (h:Bd w b D p v bs) (hb:w'.heap[b]? = w.heap[b]?) (ho:w'.ownsRow D 5 1 v bs.length bs):Bd w' b D p v bs:=⟨h.ptr,h.lt,hb.trans h.box,ho⟩
theorem Bd.below {w w':World} {b D:Nat} {p v:Value} {bs:LV} (h:Bd w b D p v bs) (hb:Below w.heap.size w w'):Bd w' b D p v bs:=⟨h.ptr,h.lt,h.box.under hb,eV h.own hb⟩
theorem a9o:(Tryz.prog.info? 5).map (fun i=>(i.zero,i.size,i.bytes))=some (some (.int .u8 0),1,1):=by kernel_rfl
theorem ZD:(Tryz.prog.info? TB).map (·.size)=some 2:=by kernel_rfl
theorem a6F:liesAt Tryz.prog Tryz.prog.depth TB (2 / Tryz.prog.cellsOf TB) 0 TB 1=true:=by kernel_rfl
def QC (b:Nat) (v:Value) (w:World) (e:Ending) (w':World):Prop:=e = .returned (.tuple #[])/\aa w' b TB #[.pointer (some ⟨b,0,none⟩),v]/\(w'=w\/w'=w.setCell ⟨b,0,none⟩ (.pointer (some ⟨b,0,none⟩)))
theorem a9s {b:Nat} {v:Value} {w:World} (h:aa w b TB #[.pointer (some ⟨b,0,none⟩),v]):Calls Tryz.prog 100 #[.pointer (some ⟨b,0,none⟩)] w (QC b v w):=by
 obtain ⟨j,hj,_⟩:=Option.map_eq_some_iff.1 ZD;have h0:w.cell? ⟨b,0,none⟩=some (.pointer (some ⟨b,0,none⟩)):=h.cell 0;have hn:=Lib.run_neq_ptr_same (P:=Tryz.prog) (w:=w) ⟨b,0,none⟩ Tryz.underlying113 hj;go_enter Tryz.func100,Tryz.ntmps100;go_wp2_with fail
 go_end0
 exact ⟨rfl,h,.inl rfl⟩
theorem abB {b:Nat} {v:Value} {w:World} (h:aa w b TB #[.pointer none,v]):Calls Tryz.prog 100 #[.pointer (some ⟨b,0,none⟩)] w (QC b v w):=by
 obtain ⟨j,hj,LA⟩:=Option.map_eq_some_iff.1 ZD;have h0:w.cell? ⟨b,0,none⟩=some (.pointer none):=h.cell 0;have hfz:=h.free 0;have Ir:w.shape? b=some (TB,2):=by unfold World.shape?;rw [h];rfl
 have oH:=kp (h.set 0 (.pointer (some ⟨b,0,none⟩)));have hc:=oH.out.cell 0;have hn:=Lib.run_neq_ptr_same (P:=Tryz.prog) (w:=w.setCell ⟨b,0,none⟩ (.pointer (some ⟨b,0,none⟩))) ⟨b,0,none⟩ Tryz.underlying113 hj;have h1:=Lib.run_to_unsafe (P:=Tryz.prog) (w:=w) ⟨b,0,none⟩ Tryz.underlying113 Tryz.underlying247 hj (by rw [LA];decide) Ir (Nat.zero_lt_succ 1);have h2:=Lib.run_from_unsafe (P:=Tryz.prog) (w:=w) ⟨b,0,none⟩ Tryz.underlying247 Tryz.underlying113 hj Ir a6F;have h3:(callFunc 137 #[.pointer (some ⟨b,0,none⟩)]).run Tryz.prog w = .ok (.value (.pointer (some ⟨b,0,none⟩))) w:=by
  rw [run_callFunc_extern Tryz.func137 (by kernel_rfl) (by kernel_rfl) (by kernel_rfl) (e:=Extern.AbiNoEscape.same) (by kernel_rfl),Lib.run_noEscape];rfl
 go_enter Tryz.func100,Tryz.ntmps100;go_wp2_with fail
 go_end0
 exact ⟨rfl,oH.out,.inr rfl⟩
theorem a5J {b D:Nat} {p v:Value} {bs:LV} {w:World} (h:Bd w b D p v bs):Calls Tryz.prog 100 #[.pointer (some ⟨b,0,none⟩)] w (QC b v w):=by
 have aJ:=h.box;rcases h.ptr with e | e
 .rw [e] at aJ;exact abB aJ
 .rw [e] at aJ;exact a9s aJ
def aba (b D:Nat) (v:Value) (bs:LV) (s:ByteArray) (w:World) (e:Ending) (w':World):Prop:=e = .returned (.tuple #[.int .i64 s.size,.nilIface])/\∃p' v',Bd w' b D p' v' (bs++Lib.strCells s)/\Below b w w'/\∀k,k<w.heap.size->k≠b->v.ownBlock≠some k->w'.heap[k]? = w.heap[k]?
theorem a6j {b D:Nat} {p v:Value} {bs:LV} {s:ByteArray} {w:World} (h:Bd w b D p v bs) (aX:bs.length+s.size<=140737488355328) (hD:D<=w.heap.size) :
 Calls Tryz.prog 51 #[.pointer (some ⟨b,0,none⟩),.string s] w (aba b D v bs s w):=by
 obtain ⟨i0,hi,oY,fe,kT⟩:=info_parts a9o;have HC:=kp (a5J h);have WE:=h.lt;have aE:=h.own;have aeo:=h.box.lt;clear h;go_enter Tryz.func51,Tryz.ntmps51;go_wp2_with fail;refine HC.o.mono ?_;rintro e w1 ⟨rfl,aJ,hw⟩;have gv:w1.heap.size=w.heap.size:=by
  rcases hw with rfl | rfl
  .rfl
  .simp
 have cz:∀k,k≠b->w1.heap[k]? = w.heap[k]? := fun k hk=>by
  rcases hw with rfl | rfl
  .rfl
  .exact Below.heap_setCell w ⟨b,0,none⟩ _ _ hk
 have j8:w1.ownsRow D 5 1 v bs.length bs:=by
  rcases hw with rfl | rfl
  .exact aE
  .exact CZ aE WE _
 have aM:=kp (show Below b w w1 from by
  rcases hw with rfl | rfl
  .exact aq _ _
  .exact (aq b w).setCell (p:=⟨b,0,none⟩) (ah _) _)
 have iV:=kp gv;have Ey:=kp cz;have fI:=kp j8;have c0:=aJ.cell 0;have c1:=aJ.cell 1;simp at c0 c1;have bO:=kp aJ;clear hw HC aE gv cz aJ j8
 go_wp2_with (at_builtin;refine Lib.wpList_append_own_string _ rfl _ _ 114 9 rfl D 5 i0 Tryz.underlying114 Tryz.underlying9 hi oY fe kT _ _ _ rfl fI.o s rfl ?c3 ?c4 ?c5 ?_)
 case c3=>unfold maxLen;omega
 case c4=>omega
 case c5=>rw [iV.o];exact hD
 intro v' w2 jZ vf _;have BI:=kp jZ;have Hg:=kp vf;have aH:aa w2 b TB #[.pointer (some ⟨b,0,none⟩),v]:=by
  refine (vf.block b (by rw [iV.o];exact aeo) (fun e => ?_)).trans bO.o;have:=(fI.o.lt b e.symm).1;omega
 have d0:=aH.cell 0;have d1:=aH.cell 1;have f1:=aH.free 1;simp at d0 d1;have aF:=kp aH;obtain ⟨ao,n',cap,rfl⟩:∃ao n' cap,v' = .slice ao n' cap:=by
  rcases jZ.2 with ⟨hv,_⟩ | ⟨g,cap,cur,hv,_⟩
  .exact ⟨_,_,_,hv⟩
  .exact ⟨_,_,_,hv⟩
 clear jZ vf aH c0 c1;go_wp2_with fail;go_ret2;refine ⟨rfl,.pointer (some ⟨b,0,none⟩),.slice ao n' cap,⟨.inr rfl,WE,aF.o.set 1 _,?_⟩,?_,fun k hk Sr hv => ?_⟩
 .have:=CZ BI.o (p:=⟨b,1,none⟩) WE (.slice ao n' cap);rw [aS,Lib.strCells_length];exact this
 .exact (aM.o.grown Hg.o (by rw [iV.o];omega) (fun k hk=>by have:=(fI.o.lt k hk).1;omega)).setCell (p:=⟨b,1,none⟩) (ah _) _
 .exact (Below.heap_setCell w2 ⟨b,1,none⟩ _ _ Sr).trans ((Hg.o.block k (by rw [iV.o];exact hk) (fun e=>hv e.symm)).trans (Ey.o k Sr))
theorem a6R {b D:Nat} {p v:Value} {bs:LV} {w:World} (h:Bd w b D p v bs):Calls Tryz.prog 50 #[.pointer (some ⟨b,0,none⟩)] w fun e w'=>e = .returned (.int .i64 bs.length)/\w'=w:=Tryz.Builder_Len b b bs w h.is
theorem a6y {b D:Nat} {p v:Value} {l:List UInt8} {w:World} (h:Bd w b D p v (Lib.byteCells l)):Calls Tryz.prog 52 #[.pointer (some ⟨b,0,none⟩)] w fun e w'=>e = .returned (.string ⟨l.toArray⟩)/\Below b w w':=Tryz.Builder_String_any b b l w h.is (Nat.le_of_lt h.box.lt)
def tO (S:LN) (i:Nat):Nat:=S.getD i 0
def xx (nd m:Nat) (S:LN) (p:aI):ByteArray:=AO (decide (p.aj+1=nd)) m (lS (decide (p.aj+1=nd)) (tO S) p)
def tK (nd m most:Nat) (ns:List aI):Nat->Option (LN×ByteArray)
 | 0=>some ([],.empty)
 | k+1=>(tK nd m most ns k).bind fun st=>match ns[k]? with
  | none=>some st
  | some p=>if most<st.2.size+(xx nd m st.1 p).size then none else some (st.1++[st.2.size],st.2++xx nd m st.1 p)
def Fu (S:LN):Nat:=S.getLast?.getD 0
def yY (nd m most:Nat) (ns:List aI):ByteArray×Nat×Nat:=match tK nd m most ns ns.length with
 | none=>(.empty,0,7)
 | some st=>(st.2,Fu st.1,0)
theorem Z8 {nd m most:Nat} {ns:List aI} {k:Nat} (h:tK nd m most ns k=none):∀j,tK nd m most ns (k+j)=none
 | 0=>h
 | j+1=>by
  show (tK nd m most ns (k+j)).bind _=none;rw [Z8 h j];rfl
theorem YJ {nd m most:Nat} {ns:List aI}:∀k,k<=ns.length->∀st,tK nd m most ns k=some st->st.1.length=k/\st.2.size<=most/\∀x∈st.1,x<=most
 | 0,_,st,h=>by
  injection h with h
  subst h;exact ⟨rfl,aZ _,fun x hx=>(by cases hx)⟩
 | k+1,hk,st,h=>by
  have h':(tK nd m most ns k).bind _=some st:=h;cases e:tK nd m most ns k with
  | none=>rw [e] at h';cases h'
  | some s0 =>
   rw [e] at h';obtain ⟨i1,i2,i3⟩:=YJ k (by omega) s0 e;rw [gE (show k<ns.length by omega)] at h';dsimp only [Option.bind] at h';split at h'
   .cases h'
   .rename_i iE;injection h' with h'
    subst h';refine ⟨by rw [aS,i1];rfl,by rw [ByteArray.size_append];omega,fun x hx => ?_⟩;rcases mem_append.1 hx with hx | hx
    .exact i3 x hx
    .rw [mem_singleton.1 hx];exact i2
theorem yK.move {last:Bool} {X:LN} {m:Nat} {p:aI} {f:Nat->Nat} (h:yK last X m p) (hf:∀i,f i<=2000000):yK last X m (lS last f p):=by
 unfold lS;cases last with
 | true=>rw [if_pos rfl];exact h
 | false =>
  rw [if_neg (by decide)];have hg:∀ (k:Nat) (l:List Cl),(p.lists.map fun l=>l.map (vT f))[k]? = some l->∃l0,p.lists[k]? = some l0/\l=l0.map (vT f):=fun k l hl=>by
   rw [getElem?_map] at hl;obtain ⟨l0,h1,h2⟩:=Option.map_eq_some_iff.1 hl;exact ⟨l0,h1,h2.symm⟩
  refine ⟨by rw [lM];exact h.ls,by rw [lM];exact h.n1,by rw [lM];exact h.n4,fun l hl => ?_,h.size,fun k l y hl hy => ?_,fun k l l' hl ja => ?_,h.a0T,hf _,h.all⟩
  .obtain ⟨l0,h0,rfl⟩:=mem_map.1 hl;rw [lM];exact h.EV l0 h0
  .obtain ⟨l0,h0,rfl⟩:=hg k l hl;have ho:=h.each k l0 y h0 hy;refine ⟨by rw [lM];exact ho.n1,fun c hc => ?_,fun c hc => ?_,fun c hc => ?_,fun i hi => ?_⟩
   .obtain ⟨c0,h1,rfl⟩:=mem_map.1 hc;exact ho.key c0 h1
   .obtain ⟨c0,h1,rfl⟩:=mem_map.1 hc;exact hf _
   .obtain ⟨c0,h1,rfl⟩:=mem_map.1 hc;exact ho.cell c0 h1
   .rw [getElem_map,getElem_map];rw [lM] at hi;exact ho.vN i hi
  .obtain ⟨l0,h0,rfl⟩:=hg k l hl;obtain ⟨l1,h1,rfl⟩:=hg (k+1) l' ja;rw [lM,lM];exact h.FA k l0 l1 h0 h1
theorem XI {last:Bool} {f:Nat->Nat} {p:aI} (h:∀l∈p.lists,l.length<=1000):∀l∈(lS last f p).lists,l.length<=1000:=by
 unfold lS;split
 .exact h
 .intro l hl;obtain ⟨l0,h0,rfl⟩:=mem_map.1 hl;rw [lM];exact h l0 h0
theorem abM {last:Bool} {f:Nat->Nat} {p:aI}:(lS last f p).aj=p.aj:=by
 unfold lS;split<;>rfl
theorem abn {S:LN} {b:Nat} (h:∀x∈S,x<=b) (i:Nat):tO S i<=b:=by
 unfold tO;rw [getD_eq_getElem?_getD];cases e:S[i]? with
 | none=>exact aZ _
 | some x=>exact h x (mem_of_getElem? e)
theorem abj (a b:ByteArray):Lib.byteCells (a++b).data.toList=Lib.byteCells a.data.toList++Lib.strCells b:=by
 rw [Lib.strCells_eq];unfold Lib.byteCells;rw [ByteArray.data_append,Array.toList_append,map_append]
theorem Xv (a:ByteArray):(Lib.byteCells a.data.toList).length=a.size:=by
 rw [Lib.byteCells_length,Array.length_toList];rfl
structure tT (W3 W5 wr:World) (gs gb:Nat) (As:OA) (cs:Nat) (S:LN) (p v:Value) (b:ByteArray):Prop where
 low:Below gs W3 wr
 up:Over (gb+1) W5 wr
 lt:gs<gb
 box:aa wr gs 27 #[.slice As S.length cs]
 own:wr.ownsRow W5.heap.size 3 1 (.slice As S.length cs) S.length (aP S)
 bd:Bd wr gb W5.heap.size p v (Lib.byteCells b.data.toList)
section
variable {W3 W5 wr w':World} {gs gb:Nat} {As:OA} {cs:Nat} {S:LN} {p v:Value} {b:ByteArray}
theorem tT.below (h:tT W3 W5 wr gs gb As cs S p v b) (hb:Below wr.heap.size wr w'):tT W3 W5 w' gs gb As cs S p v b :=
 ⟨h.low.trans (hb.mono (Nat.le_of_lt h.box.lt)),h.up.trans (Over.under hb),h.lt,h.box.under hb,eV h.own hb,h.bd.below hb⟩
theorem tT.push (h:tT W3 W5 wr gs gb As cs S p v b) {A':OA} {c' x:Nat} (ha:App wr w' (.slice As S.length cs) (.slice A' (S.length+1) c')) (ho:w'.ownsRow W5.heap.size 3 1 (.slice A' (S.length+1) c') (S.length+1) (aP S++[.int .i64 (x:Nat)])) :
 tT W3 W5 (w'.setCell ⟨gs,0,none⟩ (.slice A' (S.length+1) c')) gs gb A' c' (S++[x]) p v b:=by
 have WG:gb<W5.heap.size:=h.bd.lt;have Lx:gs<W5.heap.size:=Nat.lt_trans h.lt WG;have hD:W5.heap.size<=wr.heap.size:=h.up.size;have av:∀k,k<W5.heap.size->(Value.slice As S.length cs).ownBlock≠some k:=fun k hk e=>by have:=(h.own.lt k e).1;omega
 have aJ:aa w' gs 27 #[.slice As S.length cs]:=(ha.de h.box.lt (av gs Lx)).trans h.box;refine ⟨((ha.mO h.low h.own (Nat.le_of_lt Lx) (Nat.le_of_lt h.box.lt)).setCell (p:=⟨gs,0,none⟩) (ah _) _),⟨?_,fun k h1 h2 => ?_⟩,h.lt,?_,?_,?_⟩
 .have:=ha.grown.size;simp;omega
 .rw [Below.heap_setCell _ _ _ _ (show k≠gs by have:=h.lt;omega),ha.de (by omega) (av k h2)];exact h.up.block k h1 h2
 .rw [aS];exact aJ.set 0 _
 .rw [aS,CG];exact CZ ho Lx _
 .refine h.bd.kept ?_ (CZ (h.bd.own.kept ha.grown (MA h.bd.own h.own (by decide))) Lx _);rw [Below.heap_setCell _ _ _ _ (show gb≠gs by have:=h.lt;omega)];exact ha.de h.bd.box.lt (av gb WG)
theorem tT.write (h:tT W3 W5 wr gs gb As cs S p v b) {s:ByteArray} {p' v':Value} (hd:Bd w' gb W5.heap.size p' v' (Lib.byteCells b.data.toList++Lib.strCells s)) (hb:Below gb wr w') (hk:∀k,k<wr.heap.size->k≠gb->v.ownBlock≠some k->w'.heap[k]? = wr.heap[k]?):tT W3 W5 w' gs gb As cs S p' v' (b++s):=by
 have WG:gb<W5.heap.size:=h.bd.lt;have hD:W5.heap.size<=wr.heap.size:=h.up.size;have hv:∀k,k<W5.heap.size->v.ownBlock≠some k:=fun k hk e=>by have:=(h.bd.own.lt k e).1;omega
 refine ⟨h.low.trans (hb.mono (Nat.le_of_lt h.lt)),⟨aT hD hb.size,fun k h1 h2=>(hk k (by omega) (by omega) (hv k h2)).trans (h.up.block k h1 h2)⟩,h.lt,(hk gs h.box.lt (by have:=h.lt;omega) (hv gs (by have:=h.lt;omega))).trans h.box,?_,by rw [abj];exact hd⟩;obtain ⟨h1,h2⟩:=h.own;refine ⟨h1,?_⟩;rcases h2 with h2 | ⟨g,cap,cur,r1,r2,r3,r4⟩
 .exact .inl h2
 .refine .inr ⟨g,cap,cur,r1,r2,?_,r4⟩;have ae:g<wr.heap.size:=(h.own.lt g (by rw [r1];rfl)).2;rw [hk g ae (by omega) (fun e => ?_)]
  .exact r3
  .obtain ⟨c2,k2⟩:=IY h.bd.own e;rw [r3] at k2;cases k2
end
theorem a5l {gs k cs:Nat} {As:OA} {S:LN} {w:World} (hb:aa w gs 27 #[.slice As S.length cs]) (hr:Row w w.heap.size As (aP S)) (hk:k<S.length) (hn:S.length<=1000000) :
 Calls Tryz.prog 47 (#[.int .i64 (k:Nat)]++#[.pointer (some ⟨gs,0,none⟩)]) w fun e w'=>e = .returned (.int .i64 (tO S k:Nat))/\w'=w:=by
 obtain ⟨b,off,hA,ui,c0⟩:=Row.at_ hr (k:=k) (by rw [ke];exact hk);unfold aP at c0;rw [getElem_map] at c0;have e:tO S k=S[k]'hk:=by unfold tO;rw [getD_eq_getElem?_getD,gE hk];rfl
 rw [e];generalize (S[k]'hk)=y at *;subst hA;have b0:w.cell? ⟨gs,0,none⟩=some (.slice (some ⟨b,off,none⟩) S.length cs):=hb.cell 0;have i0:(0:Int)<=(k:Int):=by omega
 have i1:(k:Int)<(S.length:Int):=by omega
 show Calls _ _ #[.int .i64 (k:Nat),.pointer (some ⟨gs,0,none⟩)] w _;go_enter Tryz.func47,Tryz.ntmps47;go_wp2_with fail;go_ret;exact ⟨rfl,rfl⟩
section
attribute [local go_sem] EP
def QF (r:ByteArray×Nat×Nat) (w:World) (e:Ending) (w':World):Prop:=e = .returned (.tuple #[.string r.1,.int .i64 r.2.1,.int .i64 r.2.2])/\Below w.heap.size w w'
theorem aam (S:LN) (x:Nat):Fu (S++[x])=x:=by
 unfold Fu;rw [getLast?_append];rfl
theorem aaF {X:List LN} {m k:Nat} {ns:List aI} {S:LN} {A:OA} {c:Nat} {ys:List Fa} {n:Nd} {w:World} (hf:tI X m 131072 ns) (hn:ns[k]? = some (az n)) (hi:ep w w.heap.size A ys) (hk:ys.map Fa.keys=X) (hS:∀x∈S,x<=1048576) {n5:Nd} (he:az n5=lS (decide (n.aj+1=ys.length)) (tO S) (az n)) (hr:dp w w.heap.size n5) :
 Calls Tryz.prog 48 #[.agg #[.slice A ys.length c,.int .i64 (m:Nat)],.agg (bG n5)] w (LQ (xx X.length m S (az n)) w):=by
 have hl:ys.length=X.length:=by rw [<-hk,lM]
 obtain ⟨x,h1,h2,h3,h4⟩:=hf.each k _ hn;have hd:n5.aj=n.aj:=by
  have:=congrArg aI.aj he;rw [abM] at this;exact this
 obtain ⟨Ej,hx⟩:=bS h1;have wY:n5.aj<ys.length:=by rw [hd,hl];exact Ej
 have tf:(ys[n5.aj]'wY).keys=x:=by
  have:X[n5.aj]? = some (ys[n5.aj]'wY).keys:=by rw [<-hk,getElem?_map,gE wY];rfl
  have jx:X[n5.aj]? = some x:=by rw [hd];exact h1
  rw [jx] at this;injection this with this
  exact this.symm
 have qt:decide (n5.aj+1=ys.length)=decide ((az n).aj+1=X.length):=by rw [hd,hl];rfl
 have cE:=XI (last:=decide (n.aj+1=ys.length)) (f:=tO S) (p:=az n) h3;rw [<-he] at cE
 have:=a8a A c m ys n5 w hi hr (by rw [hl];exact hf.n16) hf.m1 hf.m3 wY (by
  rw [tf,qt,he,hl]
  exact h2.move (fun i=>aT (abn hS i) (by decide))) (fun l ja=>cE l.cs (mem_map_of_mem ja))
 have e:xx X.length m S (az n)=AO (decide ((az n).aj+1=X.length)) m (lS (decide (n.aj+1=ys.length)) (tO S) (az n)):=by rw [hl];rfl
 rw [qt,he] at this;rw [e];exact this
theorem a7A {X:List LN} {m k cs gs:Nat} {ns:List aI} {S:LN} {A As:OA} {nx c:Nat} {n:Nd} {w:World} (hf:tI X m 131072 ns) (hn:ns[k]? = some (az n)) (fh:nx=X.length) (Cs:S.length=k) (hr:dp w w.heap.size n) (hb:aa w gs 27 #[.slice As S.length cs]) (fg:Row w w.heap.size As (aP S)) :
 Calls Tryz.prog 49 #[.agg #[.slice A nx c,.int .i64 (m:Nat)],.agg (bG n),.func (.func 47) #[] #[.pointer (some ⟨gs,0,none⟩)]] w (LW (lS (decide (n.aj+1=nx)) (tO S) (az n)) w):=by
 obtain ⟨x,h1,h2,h3,h4⟩:=hf.each k _ hn;have Ej:=(bS h1).1;have mw:=hf.n16;have oV:=hf.len;have jP:=(bS hn).1;have hl4:=h2.n4;rw [show (az n).lists=n.ls.map Ll.cs from rfl,lM] at hl4;rw [show (az n).aj=n.aj from rfl] at Ej h4;refine a7V A nx c m _ _ (tO S) n w hr hl4 (fun l hl=>h3 l.cs (mem_map_of_mem hl)) (by omega) (by omega) (by omega) (enters_of Tryz.func47 (by kernel_rfl) rfl) (fun av x hx W hW => ?_);have uu:x.child<S.length:=by
  rcases h4 with h4 | h4
  .exact absurd (by rw [fh];exact h4) av
  .rw [Cs];refine (h4 x ?_).1;unfold di;rw [mem_append];rcases hx with rfl | ⟨l,hl,hx⟩
   .exact .inr (mem_singleton.2 rfl)
   .exact .inl (mem_flatten.2 ⟨l.cs,mem_map_of_mem hl,hx⟩)
 exact a5l (hb.under hW) ((fg.below hW).more hW.size) uu (by omega)
end
section
attribute [local go_sem] EP
theorem tT.a7G {W3 W5 wr w':World} {gs gb:Nat} {As A':OA} {cs c':Nat} {S:LN} {p v:Value} {b:ByteArray} (h:tT W3 W5 wr gs gb As cs S p v b) (ha:App wr w' (.slice As S.length cs) (.slice A' (S.length+1) c')):aa w' gs 27 #[.slice As S.length cs]:=by
 refine (ha.de h.box.lt (fun e => ?_)).trans h.box;have h1:=(h.own.lt gs e).1;have h2:=h.bd.lt;have h3:=h.lt;omega
theorem Zh {X:List LN} {m ga:Nat} {ns:List aI} {w:World} (ha:ft w ga X m ns) (ho:jJ X m ns) (hf:tI X m 131072 ns) :
 Calls Tryz.prog 15 #[.pointer (some ⟨ga,0,none⟩),.int .i64 1048576] w (QF (yY X.length m 1048576 ns) w):=by
 obtain ⟨i0,cG,cI,cH,cJ⟩:=info_parts vV;have HS:=kp (fun w' (h:Below w.heap.size w w')=>(ha.below h).shape ho);have HW:=kp (fun w' (h:Below w.heap.size w w')=>(ha.below h).whole ho);have HN:=kp (fun w' (h:Below w.heap.size w w')=>(ha.below h).nodes ho);have HQ:=kp (show ∀w',Below w.heap.size w w'->QF (yY X.length m 1048576 ns) w (.returned (.tuple #[.string (yY X.length m 1048576 ns).1,.int .i64 ((yY X.length m 1048576 ns).2.1:Nat),.int .i64 ((yY X.length m 1048576 ns).2.2:Nat)])) w' from fun w' h=>⟨rfl,h⟩);have dg:=ho.m1;have uf:(((m:Nat):Int) == 0)=false:=by simp;omega
 obtain ⟨R,hR⟩:∃R,yY X.length m 1048576 ns=R:=⟨_,rfl⟩
 have HR:=kp hR;rw [hR] at HQ ⊢;generalize hQ:QF R w=Q at *;clear hQ hR ha;go_enter Tryz.func15,Tryz.ntmps15;go_wp2_with fail;refine (HS.o w (aq _ _)).mono ?_;rintro e w1 ⟨A1,c1,y1,rfl,-,-,b1⟩;have B1:=kp b1;clear b1;go_wp2_with fail;refine (HW.o w1 B1.o).mono ?_;rintro e w2 ⟨rfl,b2⟩;have B2:=aR B1 b2;clear b2 B1;go_wp2_with fail;refine (HS.o w2 B2.o).mono ?_;rintro e w3 ⟨A3,c3,y3,rfl,i3,k3,b3⟩;have I3:=kp i3;have K3:=kp k3;have hy:y3.length=X.length:=by rw [<-k3,lM]
 have B3:=aR B2 b3;clear b3 B2 i3 k3 HS HW;rw [hy];have Hy:=kp hy;clear hy uf;have cq:=(aq w3.heap.size w3).alloc (ah _) (.cells #[.slice A3 X.length c3,.int .i64 (m:Nat)] 75);have Er:=aa.new w3 75 #[.slice A3 X.length c3,.int .i64 (m:Nat)];generalize qB:w3.alloc (.cells #[.slice A3 X.length c3,.int .i64 (m:Nat)] 75)=W4 at *;have yu:W4.heap.size=w3.heap.size+1:=by rw [<-qB];simp
 have cV:=(aq W4.heap.size W4).alloc (ah _) (.cells #[.slice none 0 0] 27);have Th:=aa.lay (w:=W4) (t:=27) (cs:=#[.slice none 0 0]) yu;generalize yo:W4.alloc (.cells #[.slice none 0 0] 27)=W5 at *;have zW:W5.heap.size=w3.heap.size+1+1:=by rw [<-yo];simp [yu]
 have eR:=cV.alloc cV.size (.cells #[.pointer none,.slice none 0 0] 116);have Ku:=Th.alloc (.cells #[.pointer none,.slice none 0 0] 116);have OW:=aa.lay (w:=W5) (t:=116) (cs:=#[.pointer none,.slice none 0 0]) zW;generalize lL:W5.alloc (.cells #[.pointer none,.slice none 0 0] 116)=W6 at *;have C2:W6.heap.size=w3.heap.size+1+1+1:=by rw [<-lL];simp [zW]
 have a4I:Below w3.heap.size w3 W6:=cq.trans (eR.mono cq.size);have HN6:=kp (HN.o W6 (B3.o.trans (a4I.mono B3.o.size)));have eI:=kp eR;have Hs6:=kp Ku;have aep:=kp cq;have Hd6:=kp OW;have Lb:=kp Er;have I4:=kp ((I3.o.below cq).more cq.size);have Hz4:=kp yu;have OT:=kp C2;have B4:=aR B3 cq;have JY:w3.heap.size<W4.heap.size:=by omega
 clear cq Er cV Th eR Ku OW a4I C2 JY HN;go_wp2_with fail;refine HN6.o.mono ?_;clear qB yo lL yu zW HN6;rintro e w7 ⟨An,cn,nds,rfl,ur,a4J,b7⟩;have Hn7:=kp (show iR w7 (w3.heap.size+1+1+1) (.slice An nds.length cn) nds by rw [<-OT.o];exact ur);have fJ:=kp a4J
 have vv:=kp (show tT W4 w7 w7 (w3.heap.size+1) (w3.heap.size+1+1) none 0 [] (.pointer none) (.slice none 0 0) .empty from
  ⟨by rw [<-Hz4.o];exact eI.o.trans (b7.mono eI.o.size),⟨ah _,fun k h1 h2=>rfl⟩,by omega,Hs6.o.under b7,gL _ _ _ _,⟨.inl rfl,by have:=b7.size;have:=OT.o;omega,Hd6.o.under b7,gL _ _ _ _⟩⟩)
 obtain ⟨nn,eE⟩:∃nn,nds.length=nn:=⟨_,rfl⟩
 have vq:=kp eE;rw [eE];clear ur a4J b7 eE eI Hs6 Hd6;rw [show max (1048576:Int) 0=1048576 from rfl];rw [vq.o] at Hn7;have zK:=kp (show nn<=131072 by have:=hf.len;rw [<-fJ.o,lM,vq.o] at this;exact this);have Hf:=kp hf;clear hf ho dg;go_wp2_with fail
 go_loopw [11,31] (fun pr DE wr=>∃ (k:Nat) (st:LN×ByteArray) (As:OA) (cs:Nat) (p v:Value),k<=nn/\DE = .int .i64 (k:Nat)/\pr = .int .i64 (Fu st.1:Nat)/\tK X.length m 1048576 ns k=some st/\tT W4 w7 wr (w3.heap.size+1) (w3.heap.size+1+1) As cs st.1 p v st.2) (fun _ DE _=>nn-(intOf DE).toNat)
 case atStart=>exact ⟨0,([],.empty),none,0,_,_,aZ _,rfl,rfl,rfl,vv.o⟩
 case round =>
  clear vv;obtain ⟨k,⟨S,b⟩,As,cs,p,v,hk,rfl,rfl,Df,hM⟩:=hrel;have WH:=kp Df;have HM:=kp hM;have oF:=zK.o;have aX:ns.length=nn:=by rw [<-fJ.o,lM,vq.o]
  obtain ⟨LC,hS2,hS3⟩:=YJ k (by rw [aX];exact hk) _ Df;dsimp only at LC hS2 hS3;have lz:=kp aX;have uz:=kp LC;clear Df hM aX;dsimp only;by_cases ae:k<nn
  .have jP:k<nds.length:=by rw [vq.o];exact ae
   have WI:=(Hn7.o.yS HM.o.up).at_;obtain ⟨bn,on,hA,ov,d0,d1,d2,d3,d4,d5,d6,d7,d8,d9,dB,dC,gB,iF⟩:=yL WI.row k jP;have HE:=kp (WI.each _ (gM jP));have zL:ns[k]? = some (az (nds[k]'jP)):=by rw [<-fJ.o,getElem?_map,gE jP];rfl
   have Dh:=kp zL;have hx:=Hf.o.each k _ zL
   have Ws:=kp (show (xx X.length m S (az (nds[k]'jP))).size<=400000 from by
    obtain ⟨x,h1,h2,h3,h4⟩:=Hf.o.each k _ zL;refine a7v _ _ _ Hf.o.m3 (XI h3) ?_;have:=h2.n4;unfold lS;split
    .exact this
    .rw [lM];exact this)
   have WJ:=kp (fun (w':World) (hb:Below wr.heap.size wr w')=>show Calls Tryz.prog 49 _ w' _ from a7A (A:=A3) (c:=c3) Hf.o zL rfl LC ((HE.o.below hb).more hb.size) (HM.o.below hb).box (gV (HM.o.below hb).own));have Kh:=kp (fun (w':World) (n5:Nd) (hb:Below w3.heap.size w3 w') h1 h2=>aaF (A:=A3) (c:=c3) (ys:=y3) (w:=w') Hf.o zL ((I3.o.below hb).more hb.size) K3.o hS3 (n5:=n5) h1 h2);rw [Hy.o] at Kh
   have tW:=kp (show 1048576<b.size+(xx X.length m S (az (nds[k]'jP))).size->tK X.length m 1048576 ns (k+1)=none from fun h=>by
    show (tK X.length m 1048576 ns k).bind _=none;rw [WH.o,zL];dsimp only [Option.bind]
    rw [if_pos h])
   have Pg:=kp (show ¬1048576<b.size+(xx X.length m S (az (nds[k]'jP))).size->tK X.length m 1048576 ns (k+1)=some (S++[b.size],b++xx X.length m S (az (nds[k]'jP))) from fun h=>by
    show (tK X.length m 1048576 ns k).bind _=_;rw [WH.o,zL];dsimp only [Option.bind]
    rw [if_neg h])
   have HP:=kp (show ∀ (w':World) (n5:Nd),Below w3.heap.size w3 w'->az n5=lS (decide ((nds[k]'jP).aj+1=X.length)) (tO S) (az (nds[k]'jP))->dp w' w'.heap.size n5->Calls Tryz.prog 48 #[.agg #[.slice A3 X.length c3,.int .i64 (m:Nat)],.agg (bG n5)] w' (LQ (xx X.length m S (az (nds[k]'jP))) w') from Kh.o);generalize xx X.length m S (az (nds[k]'jP))=s at *;generalize lS (decide ((nds[k]'jP).aj+1=X.length)) (tO S) (az (nds[k]'jP))=pm at *;clear hx zL Dh WI HE Kh LC;generalize (nds[k]'jP)=n at *;obtain ⟨aj,nA,ls,nc,key,child,ac,s0,n0,x0,s1,n1,x1,s2,n2,x2⟩:=n;dsimp only [bG] at WJ d0 d1 d2 d3 d4 d5 d6 d7 d8 d9 dB dC gB iF;have sj:=(aq wr.heap.size wr).alloc (ah _) (.cells #[.int .i64 (aj:Nat),.slice nA ls.length nc,.int .i64 (key:Nat),.int .i64 (child:Nat),.int .i64 ac,.int .i64 s0,.int .i64 n0,.int .i64 x0,.int .i64 s1,.int .i64 n1,.int .i64 x1,.int .i64 s2,.int .i64 n2,.int .i64 x2] 100);have iW:=kp (aa.new wr 100 #[.int .i64 (aj:Nat),.slice nA ls.length nc,.int .i64 (key:Nat),.int .i64 (child:Nat),.int .i64 ac,.int .i64 s0,.int .i64 n0,.int .i64 x0,.int .i64 s1,.int .i64 n1,.int .i64 x1,.int .i64 s2,.int .i64 n2,.int .i64 x2]);have rk:=kp (HM.o.below sj);have vt:=kp sj;have k0:(0:Int)<=(k:Int):=by omega
   have k1:(k:Int)<(nn:Int):=by omega
   clear sj jP;subst hA;go_upto_region 14 with fail
   clear d0 d1 d2 d3 d4 d5 d6 d7 d8 d9 dB dC gB iF;generalize wr.alloc (.cells #[.int .i64 (aj:Nat),.slice nA ls.length nc,.int .i64 (key:Nat),.int .i64 (child:Nat),.int .i64 ac,.int .i64 s0,.int .i64 n0,.int .i64 x0,.int .i64 s1,.int .i64 n1,.int .i64 x1,.int .i64 s2,.int .i64 n2,.int .i64 x2] 100)=W8 at *;have Tz:wr.heap.size<W8.heap.size:=iW.o.lt;have a4K:=kp (fun (w':World) (hb:Below W8.heap.size W8 w')=>WJ.o w' (vt.o.trans (hb.mono vt.o.size)));clear WJ vt;generalize wr.heap.size=gn at *;have WK:=kp (show Below w3.heap.size w3 W8 from aep.o.trans (rk.o.low.mono (Nat.le_succ _)));have WL:=kp (show ∀w',Below W8.heap.size W8 w'->aa w' w3.heap.size 75 #[.slice A3 X.length c3,.int .i64 (m:Nat)] from fun w' h=>((rk.o.below h).low.block _ (Nat.lt_succ_self _)).trans Lb.o);have HS:=kp (show ∀w',Below W8.heap.size W8 w'->(w'.cell? ⟨w3.heap.size,0,none⟩=some (.slice A3 X.length c3)/\w'.cell? ⟨w3.heap.size,1,none⟩=some (.int .i64 (m:Nat)))/\(w'.cell? ⟨gn,0,none⟩=some (.int .i64 (aj:Nat))/\w'.cell? ⟨gn,1,none⟩=some (.slice nA ls.length nc)/\w'.cell? ⟨gn,2,none⟩=some (.int .i64 (key:Nat))/\w'.cell? ⟨gn,3,none⟩=some (.int .i64 (child:Nat))/\w'.cell? ⟨gn,4,none⟩=some (.int .i64 ac)/\w'.cell? ⟨gn,5,none⟩=some (.int .i64 s0)/\w'.cell? ⟨gn,6,none⟩=some (.int .i64 n0)/\w'.cell? ⟨gn,7,none⟩=some (.int .i64 x0)/\w'.cell? ⟨gn,8,none⟩=some (.int .i64 s1)/\w'.cell? ⟨gn,9,none⟩=some (.int .i64 n1)/\w'.cell? ⟨gn,10,none⟩=some (.int .i64 x1)/\w'.cell? ⟨gn,11,none⟩=some (.int .i64 s2)/\w'.cell? ⟨gn,12,none⟩=some (.int .i64 n2)/\w'.cell? ⟨gn,13,none⟩=some (.int .i64 x2))/\Below W8.heap.size W8 w' from fun w' h=>⟨⟨(WL.o w' h).cell 0,(WL.o w' h).cell 1⟩,(aa.cw (iW.o.under h)).1,h⟩);refine wp_region_noPanic ?_;refine dt (t:=99) (S:=(fun w'=>(w'.cell? ⟨w3.heap.size,0,none⟩=some (.slice A3 X.length c3)/\w'.cell? ⟨w3.heap.size,1,none⟩=some (.int .i64 (m:Nat)))/\(w'.cell? ⟨gn,0,none⟩=some (.int .i64 (aj:Nat))/\w'.cell? ⟨gn,1,none⟩=some (.slice nA ls.length nc)/\w'.cell? ⟨gn,2,none⟩=some (.int .i64 (key:Nat))/\w'.cell? ⟨gn,3,none⟩=some (.int .i64 (child:Nat))/\w'.cell? ⟨gn,4,none⟩=some (.int .i64 ac)/\w'.cell? ⟨gn,5,none⟩=some (.int .i64 s0)/\w'.cell? ⟨gn,6,none⟩=some (.int .i64 n0)/\w'.cell? ⟨gn,7,none⟩=some (.int .i64 x0)/\w'.cell? ⟨gn,8,none⟩=some (.int .i64 s1)/\w'.cell? ⟨gn,9,none⟩=some (.int .i64 n1)/\w'.cell? ⟨gn,10,none⟩=some (.int .i64 x1)/\w'.cell? ⟨gn,11,none⟩=some (.int .i64 s2)/\w'.cell? ⟨gn,12,none⟩=some (.int .i64 n2)/\w'.cell? ⟨gn,13,none⟩=some (.int .i64 x2))/\Below W8.heap.size W8 w')) (by kernel_rfl) (HS.o _ (aq _ _).drew) (fun ad => ?_);refine tD 0 1 2 3 ad ?_;refine oT 4 fun K hK=>?_
   go_simp
   refine (a4K.o _ ad.2.2).mono ?_;rintro e w9 ⟨n5,rfl,hp5,KM,ss⟩;refine oK hK ?_ fun af=>?_
   .exact HS.o _ (ad.2.2.trans (ss.mono ad.2.2.size))
   replace ad:=af;clear hK K af;refine oT 5 fun K hK=>?_
   go_simp
   refine (HP.o _ n5 (WK.o.trans (ad.2.2.mono WK.o.size)) hp5 KM).mono ?_;rintro e yx ⟨rfl,AJ⟩;refine oK hK ?_ fun af=>?_
   .exact HS.o _ (ad.2.2.trans (AJ.mono ad.2.2.size))
   replace ad:=af;clear hK K af;refine tD 6 7 8 9 ad ?_;refine tk 10 ad ?_;refine dY (by kernel_rfl) ?_ _
   try clear ad
   refine NoPanic.normal ?_;have WM:Below W8.heap.size W8 yx:=((aq _ W8).drew.trans ss).trans (AJ.mono (show W8.heap.size<=w9.heap.size from ss.size));have tw:=kp (rk.o.below WM);clear ss AJ KM hp5 a4K HP HS WL WK rk iW Tz;have sT:=Xv b;have WN:=kp (show Calls Tryz.prog 50 #[.pointer (some ⟨w3.heap.size+1+1,0,none⟩)] yx fun e w'=>e = .returned (.int .i64 b.size)/\w'=yx from by have:=a6R tw.o.bd;rw [sT] at this;exact this);clear sT;have Vb:=Ws.o;have hwr:IntKind.i64.wrap (1048576-(s.size:Int))=1048576-(s.size:Int):=IntWalk.i64_in _ (by omega);go_wp2_with fail;refine WN.o.mono ?_;rintro e Cq ⟨rfl,rfl⟩;by_cases wW:1048576<b.size+s.size
   .have a4L:=tW.o wW;have hg:decide ((1048576:Int)-(s.size:Int)<(b.size:Int))=true:=decide_eq_true (by omega);have LD:R=(.empty,0,7):=by
     rw [<-HR.o];unfold yY;have:=Z8 a4L (ns.length-(k+1));rw [show k+1+(ns.length-(k+1))=ns.length by have:=lz.o;omega] at this;rw [this]
    have Hf:=kp (HQ.o Cq (B4.o.trans (tw.o.low.mono (aT B3.o.size (Nat.le_succ _)))));rw [LD] at Hf;clear a4L LD WM;go_wp2_with fail;go_ret3;exact Hf.o
   .have aeq:=kp (Pg.o wW);have hg:decide ((1048576:Int)-(s.size:Int)<(b.size:Int))=false:=decide_eq_false (by omega);have aJ:=tw.o.box;have c0:Cq.cell? ⟨w3.heap.size+1,0,none⟩=some (.slice As S.length cs):=aJ.cell 0;have hSl:S.length<1048576*64:=by have:=uz.o;omega
    have hSz:=tw.o.up.size;clear WM aJ;go_wp2_with fail;refine WN.o.mono ?_;rintro e w12 ⟨rfl,rfl⟩
    go_wp2_with (at_builtin;refine tE rfl (.tmp 54) (.tmp 56) 27 rfl w7.heap.size 3 i0 (.int .i64 0) 8 Tryz.underlying27 cG cI cH cJ rfl w12 (.int .i64 b.size) rfl (.slice As S.length cs) S.length (aP S) rfl tw.o.own rfl hSl (by decide) hSz ?_)
    intro oE Ig WO WQ;obtain ⟨A13,O3,rfl⟩:=eM WO;have WS:=tw.o.a7G WQ;have e0:Ig.cell? ⟨w3.heap.size+1,0,none⟩=some (.slice As S.length cs):=WS.cell 0;have ef:=WS.free 0;have Ph:=kp (tw.o.push WQ WO);have sT:=Xv b;have HWr:=kp (a6j (s:=s) Ph.o.bd (by rw [sT];omega) Ph.o.up.size);clear WO WQ WS c0 sT tw WN;go_wp2_with fail;refine HWr.o.mono ?_;clear HWr;rintro e w14 ⟨rfl,p',v',a4M,Cu,a4N⟩;have aer:=kp (Ph.o.write a4M Cu a4N);clear a4M Cu a4N Ph e0 ef;go_wp2_with fail;exact ⟨⟨k+1,(S++[b.size],b++s),A13,O3,p',v',by omega,by go_num,by rw [aam],aeq.o,aer.o⟩,by simp [intOf];omega⟩
  .obtain rfl:k=nn:=by omega
   clear LC;have wN:=kp (a6y HM.o.bd);have HBw:=kp (B4.o.trans (HM.o.low.mono (aT B3.o.size (Nat.le_succ _))));have LD:R=(b,Fu S,0):=by
    rw [<-HR.o];unfold yY;rw [lz.o,WH.o]
   have VS:=kp (show ∀w',Below w.heap.size w w'->Q (.returned (.tuple #[.string b,.int .i64 (Fu S:Nat),.int .i64 0])) w' from fun w' hb=>by have:=HQ.o w' hb;rw [LD] at this;exact this);clear LD;have ui:(⟨b.data.toList.toArray⟩:ByteArray)=b:=by cases b;simp
   rw [ui] at wN;clear ui;go_wp2_with fail;refine wN.o.mono ?_;rintro e WT ⟨rfl,Cv⟩;have Hf:=kp (VS.o WT (HBw.o.trans (Cv.mono (by have:=B3.o.size;have:=HM.o.lt;omega))));clear Cv;go_wp2_with fail;go_ret3;exact Hf.o
end
theorem abI {s:aW} {fs:List Fa} {most:Nat} (h:MU s fs most) {part:LN} (hp:kV (aG fs) part) {r:Ag} (hr:tG (aG fs) part=some r):eX r:=by
 refine ZX _ aO r Fe (fun a ha => ?_) hr;obtain ⟨i,hi,rfl⟩:=mem_map.1 ha;have hl:=hp.lt i hi;unfold aG at hl;rw [lM] at hl;rw [Qg (gE hl)];exact h.fit _ (gM hl)
theorem ZT {s:aW} {fs:List Fa} {most:Nat} (h:MU s fs most) {last:Bool} {st:St} {at_ key:Nat} {part:LN} {c:Cl} (hp:kV (aG fs) part) (hc:rL (aG fs) last st at_ key part c):eX c.ag:=by
 have h2:=hc.2;split at h2
 .obtain ⟨r,hr,_⟩:=h.cfg.IU part hp;rw [h2.2,hr];exact abI h hp hr
 .rw [h2.1];exact Fe
theorem a0D {s:aW} {fs:List Fa} {ns:List aI} (hs:dO s) (hf:gK s fs) (h:dQ s fs 20000=some ns) {b:Nat} (ax:20000<=b) (aH:b<=1000000):tI (s.ak.map dK) s.aU.length b ns/\∀n∈ns,∀x∈di n,eX x.ag:=by
 have hB:=II hs hf (most:=20000) (by decide);have aX:=EW h;have hX:(s.ak.map dK).length=s.ak.length:=lM _;have hn:=hs.n1;have eZ:=hs.n2;by_cases av:fs=[]
 .subst av;have:=F8 h;subst this;exact ⟨⟨by omega,by omega,hs.m1,hs.m2,aZ _,aH,fun i n h=>(by cases h)⟩,fun n hn=>(by cases hn)⟩
 .obtain ⟨st,rfl,fM⟩:=PH hs av h;refine ⟨⟨by omega,by omega,hs.m1,hs.m2,by omega,aH,fun i n hi => ?_⟩,fun n hn x hx => ?_⟩
  .obtain ⟨p,hp,h1,h2,hr⟩:=fM.at_ hi;have hx:(s.ak.map dK)[p.1]? = some (dK (s.ak[p.1]'h1)):=by rw [getElem?_map,gE h1];rfl
   have hl:(s.ak.map gl)[p.1]? = some (gl (s.ak[p.1]'h1)):=by rw [getElem?_map,gE h1];rfl
   have eC:=hr.lists;have lZ:=hr.all;rw [hl] at eC;rw [<-hX] at eC lZ;obtain ⟨k1,k2⟩:=XD hB.cfg hl hx h2 (by rw [fM.kZ.len];omega) eC lZ;have hd:=hr.aj;refine ⟨_,by rw [hd];exact hx,?_,fun l ja=>aT (k2 l ja) (by decide),?_⟩
   .rw [hd];have:n=⟨p.1,n.lists,n.all⟩:=by rw [<-hd]
    rw [this];exact k1
   .by_cases xZ:n.aj+1=(s.ak.map dK).length
    .exact .inl xZ
    .refine .inr fun c hc=>⟨fM.kZ.back i n hi (by omega) c hc,?_⟩
     obtain ⟨q,hq⟩:=hr.lead (by omega) hc;have iS:c.child<st.nodes.length:=by rw [<-fM.kZ.len];exact (bS hq).1
     refine ⟨_,gE iS,?_⟩;rw [(fM.kZ.rep _ _ _ (gE iS) hq).aj,hd]
  .obtain ⟨i,hi,rfl⟩:=getElem_of_mem hn;obtain ⟨p,hp,h1,h2,hr⟩:=fM.at_ (gE hi);rcases mem_append.1 hx with hx | hx
   .obtain ⟨k,l,j,e1,e2⟩:=QI hx;obtain ⟨lift,_,fg⟩:=dI.left hr.lists e1;obtain ⟨g,hg,hc⟩:=dI.left fg e2;exact ZT hB (h2.group (mem_of_getElem? hg)) hc
   .rw [mem_singleton.1 hx];exact ZT hB h2 hr.all
theorem aad {s:aW} {fs:List Fa} {ns:List aI} (hs:dO s) (hf:gK s fs) (h:dQ s fs 20000=some ns):jJ (s.ak.map dK) s.aU.length ns:=by
 have hk:=Ry hs hf h;have hX:(s.ak.map dK).length=s.ak.length:=lM _;refine ⟨by rw [hX];exact hs.n1,by rw [hX];exact hs.n2,hs.m1,hs.m2,EW h,fun x hx => ?_,hk.small,by rw [hX];exact hk.yN⟩;obtain ⟨d,hd,rfl⟩:=mem_map.1 hx;obtain ⟨i,hi,rfl⟩:=getElem_of_mem hd;rw [xK];exact aT (hs.ak i hi).n2 (by decide)
section
variable {s:aW} {rows:List Rw} {ns:List aI}
abbrev dX (s:aW):List LN:=s.ak.map dK
theorem FC.ar (h:FC s rows ns):jJ (dX s) s.aU.length ns:=by
 obtain ⟨l,h1,h2⟩:=h;exact aad h1.eF h1.ok h2
theorem FC.fin (h:FC s rows ns) {b:Nat} (ax:20000<=b) (aH:b<=1000000):tI (dX s) s.aU.length b ns:=by
 obtain ⟨l,h1,h2⟩:=h;exact (a0D h1.eF h1.ok h2 ax aH).1
theorem FC.fit (h:FC s rows ns):∀n∈ns,∀x∈di n,eX x.ag:=by
 obtain ⟨l,h1,h2⟩:=h;exact (a0D h1.eF h1.ok h2 (ah _) (by decide)).2
theorem FC.sh (h:FC s rows ns):∀xs:List Fa,xs.map Fa.keys=dX s->Bg xs s.aU.length:=by
 obtain ⟨l,h1,h2⟩:=h;exact (II h1.eF h1.ok (most:=20000) (by decide)).shape
def rq (s:aW):List (List Rw)->List (List aI)->Prop
 | [],[]=>True
 | b::bs,n::ns=>FC s b n/\rq s bs ns
 | _,_=>False
theorem rq.snoc {b:List Rw} {n:List aI} (hn:FC s b n):∀ {bs:List (List Rw)} {ls:List (List aI)},rq s bs ls->rq s (bs++[b]) (ls++[n])
 | [],[],_=>⟨hn,trivial⟩
 | [],_::_,h=>h.elim
 | _::_,[],h=>h.elim
 | _::_,_::_,h=>⟨h.1,rq.snoc hn h.2⟩
theorem rq.len:∀ {bs:List (List Rw)} {ls:List (List aI)},rq s bs ls->ls.length=bs.length
 | [],[],_=>rfl
 | [],_::_,h=>h.elim
 | _::_,[],h=>h.elim
 | _::_,_::_,h=>congrArg (·+1) (rq.len h.2)
theorem rq.ar:∀ {bs:List (List Rw)} {ls:List (List aI)},rq s bs ls->∀a∈ls,jJ (dX s) s.aU.length a
 | [],[],_,a,ha=>by cases ha
 | [],_::_,h,_,_=>h.elim
 | _::_,[],h,_,_=>h.elim
 | _::_,_::_,h,a,ha=>by
  rcases mem_cons.1 ha with rfl | ha
  .exact h.1.ar
  .exact rq.ar h.2 a ha
def half:List (List Rw)->List (List Rw)
 | a::b::r=>(a++b)::half r
 | l=>l
theorem XR:∀l:List (List Rw),(half l).flatten=l.flatten
 | []=>rfl
 | [_]=>rfl
 | a::b::r=>by
  show ((a++b)::half r).flatten=_;rw [flatten_cons,XR r,flatten_cons,flatten_cons,append_assoc]
theorem QK:∀l:List (List Rw),(half l).length=(l.length+1) / 2
 | []=>by decide
 | [_]=>(show (1:Nat)=(1+1) / 2 by decide)
 | a::b::r=>by
  show (half r).length+1=(r.length+1+1+1) / 2;rw [QK r];omega
theorem Xq (h:FC s rows ns):∀ (bs:List (List Rw)) (ls:List (List aI)) (pre post:List Rw),rq s bs ls->rows=pre++(bs.flatten++post)->∃iG,rq s (half bs) iG/\QU (dX s) s.aU.length 20000 ls iG
 | [],[],_,_,_,_=>⟨[],trivial,rfl,fun i r hi=>(by cases hi)⟩
 | [],_::_,_,_,hp,_=>hp.elim
 | _::_,[],_,_,hp,_=>hp.elim
 | [b],[n],_,_,hp,_=>⟨[n],hp,(show (1:Nat)=(1+1) / 2 by decide),fun i r hi=>by
  rcases i with _ | i
  .injection hi with hi
   subst hi;exact .inr ⟨rfl,rfl⟩
  .cases hi⟩
 | [_],_::_::_,_,_,hp,_=>hp.2.elim
 | _::_::_,[_],_,_,hp,_=>hp.2.elim
 | a::b::r,na::nb::ls,pre,post,hp,e=>by
  obtain ⟨ha,hb,hr⟩:=hp;have e1:rows=pre++(a++b++(r.flatten++post)):=by rw [e];simp
  obtain ⟨nc,h1,h2,h3⟩:=h.two e1 ha hb;obtain ⟨iG,k1,k2,k3⟩:=Xq h r ls (pre++(a++b)) post hr (by rw [e];simp);have hX:(dX s).length=s.ak.length:=lM _;refine ⟨nc::iG,⟨h3,k1⟩,by rw [length_cons,k2,length_cons,length_cons];omega,fun i q hi => ?_⟩;rcases i with _ | i
  .injection hi with hi
   subst hi
   refine .inl ⟨na,nb,rfl,rfl,ha.ar,hb.ar,ha.sh,by decide,ha.fit,hb.fit,by rw [hX];exact h1,h3.fin (ah _) (by decide),fun hh=>by
    rw [hX];refine h2 ?_;by_cases h0:na=[]
    .exact .inr fun h4=>hh ⟨h0,h4⟩
    .exact .inl h0⟩
  .have h5:=k3 i q hi;rw [show (i+1)*2=i*2+1+1 by omega];exact h5
theorem Z3 (h:FC s rows ns):∀ (n:Nat) (bs:List (List Rw)) (ls:List (List aI)),bs.length<=n->bs≠[]->rq s bs ls->bs.flatten=rows->D1 (dX s) s.aU.length 20000 ls ns
 | 0,bs,_,hn,av,_,_=>absurd (length_eq_zero_iff.1 (Nat.le_zero.1 hn)) av
 | n+1,bs,ls,hn,av,hp,e=>by
  by_cases h1:bs.length=1
  .match bs,ls,h1,hp with
   | [b],[a],_,hp =>
    have hb:FC s rows a:=by
     have:=hp.1;rw [<-e];simpa using this
    have:a=ns:=hb.one h;subst this;exact .one hb.ar (hb.fin (by decide) (by decide)) hb.sh
  .have hl:2<=bs.length:=by
    have:=length_pos_iff.2 av;omega
   obtain ⟨iG,k1,k2⟩:=Xq h bs ls [] [] hp (by rw [e];simp);refine .step (by rw [hp.len];exact hl) k2 (Z3 h n (half bs) iG (by rw [QK];omega) (fun h0 => ?_) k1 (by rw [XR];exact e));have:=QK bs;rw [h0,length_nil] at this;omega
end
structure Wb (s:aW) (rows:List Rw):Prop where
 ok:qI s rows
 mU:rows.length<=40
 fits:∀r∈rows,∀x∈r.dP,fit x
 wide:∃la,uI s rows rows.length la/\∀f∈la,sD f.ag
theorem Wb.part {s:aW} {rows a b c:List Rw} (h:Wb s rows) (e:rows=a++(b++c)):Wb s b:=by
 subst e;have hl:=h.mU;have hn:=h.ok.n;simp only [aS] at hl hn;obtain ⟨la,⟨h1,h2⟩,h3⟩:=h.wide;simp only [aS] at h1;have hm:∀r∈b,r∈a++(b++c):=fun r hr=>mem_append_right _ (mem_append_left _ hr)
 refine ⟨⟨h.ok.eF,by omega,fun r hr=>h.ok.rows r (hm r hr)⟩,by omega,fun r hr=>h.fits r (hm r hr),(la.drop a.length).take b.length,⟨by rw [length_take,length_drop];omega,fun i r f hr hf => ?_⟩,fun f hf=>h3 f (mem_of_mem_drop (mem_of_mem_take hf))⟩;have hi:=(bS hr).1;rw [getElem?_take_of_lt hi,getElem?_drop] at hf;refine h2 (a.length+i) r f ?_ hf;rw [getElem?_append_right (by omega),Nat.add_sub_cancel_left,getElem?_append_left hi];exact hr
theorem Wb.ing {s:aW} {rows:List Rw} (h:Wb s rows) {ps qs:List (LN×Ag)} (h1:rI s rows ps) (h2:qs.Perm ps) (h3:xC qs):∃r,ki [] qs=some r/\∀l:List Fa,l.map pl=r->oN s rows l:=by
 obtain ⟨la,k1,k2⟩:=h.wide;have hp:=F4 h.ok.eF h1 ⟨la,k1,rfl⟩;have hw:∀x∈ps,sD x.2:=fun x hx=>by
  rw [hp] at hx;unfold aG at hx;obtain ⟨f,hf,rfl⟩:=mem_map.1 hx;exact k2 f hf
 obtain ⟨g1,g2⟩:=ZI h.ok h.fits h1 hw;have hn:ps.length<=64:=by have:=h.mU;omega
 obtain ⟨r,hr⟩:=Xm hn g2 h2 h3;exact ⟨r,hr,fun l hl=>XJ h.ok.eF h1 hn g2 h2 h3 hr hl⟩
def a6G (s:aW) (rows:List Rw) (w:World) (e:Ending) (w':World):Prop:=∃ (A:OA) (c:Nat) (l:List Fa),e = .returned (.tuple #[.slice A l.length c,.int .i64 0])/\oN s rows l/\dG w' w'.heap.size A l/\Below w.heap.size w w'
theorem a90 {s:aW} {A:OA} {rows:List Rw} {c:Nat} {w:World} (h:gW w w.heap.size s) (hr:j6 w w.heap.size A rows) (ho:Wb s rows) :
 Calls Tryz.prog 8 #[.agg (cj s),.slice A rows.length c] w (a6G s rows w):=by
 refine (XV s A rows c w h hr ho.ok (by have:=ho.mU;omega)).mono ?_;rintro e w' ⟨ps,qs,h1,h2,h3,h4,h5⟩;obtain ⟨r,hf,hl⟩:=ho.ing h1 h2 h3;unfold EY at h4;rw [hf] at h4;obtain ⟨v,l,he,cM,NS,_⟩:=h4;obtain ⟨A',c',rfl⟩:=NS.form;exact ⟨A',c',l,he,hl l cM,NS.uM,h5⟩
def Bld (s:aW) (rows:List Rw) (w:World) (e:Ending) (w':World):Prop:=(∃ (ns:List aI) (ga:Nat),e = .returned (.tuple #[.pointer (some ⟨ga,0,none⟩),.int .i64 0])/\FC s rows ns/\hJ w' (fun k=>w.heap.size<=k) ga (dX s) s.aU.length ns/\Below w.heap.size w w')\/((∀ns,¬FC s rows ns)/\e = .returned (.tuple #[.pointer none,.int .i64 7])/\Below w.heap.size w w')
theorem a0O {s:aW} {Af:OA} {rows:List Rw} {fs:List Fa} {cf:Nat} {w:World} (h:gW w w.heap.size s) (hf:dG w w.heap.size Af fs) (ho:oN s rows fs) :
 Calls Tryz.prog 9 #[.agg (cj s),.int .i64 20000,.slice Af fs.length cf] w (Bld s rows w):=by
 refine (show Calls Tryz.prog 9 #[.agg (cj s),.int .i64 20000,.slice Af fs.length cf] w (IB s fs 20000 w) from PN s 20000 Af cf fs w h hf (II ho.eF ho.ok (by decide))).mono ?_;rintro e w' ⟨h1,h2⟩;cases hc:dQ s fs 20000 with
 | none =>
  obtain ⟨he,hb⟩:=h2 hc;refine .inr ⟨fun ns hn => ?_,he,hb⟩;obtain ⟨l',k1,k2⟩:=hn;rw [<-Qi (Ys ho k1),hc] at k2;cases k2
 | some ns =>
  obtain ⟨ga,A,An,c,cn,ys,nds,he,aJ,hi,hk,hn,hp,hb,pw,ej,eZ,Jw⟩:=h1 ns hc;exact .inl ⟨ns,ga,he,⟨fs,ho,hc⟩,⟨A,An,c,cn,20000,ys,nds,⟨aJ,hi,hk,hn,hp⟩,pw,ej,eZ,Jw⟩,hb⟩
theorem a9t {s:aW} {rows a b c:List Rw} {ns:List aI} {Af:OA} {fs:List Fa} {cf:Nat} {w:World} (hw:FC s rows ns) (e:rows=a++(b++c)) (h:gW w w.heap.size s) (hf:dG w w.heap.size Af fs) (ho:oN s b fs) :
 Calls Tryz.prog 9 #[.agg (cj s),.int .i64 20000,.slice Af fs.length cf] w fun e w'=>∃ (ns:List aI) (ga:Nat),e = .returned (.tuple #[.pointer (some ⟨ga,0,none⟩),.int .i64 0])/\FC s b ns/\hJ w' (fun k=>w.heap.size<=k) ga (dX s) s.aU.length ns/\Below w.heap.size w w':=by
 refine (a0O h hf ho).mono ?_;rintro e' w' (h1 | ⟨h1,_⟩)
 .exact h1
 .obtain ⟨yn,h2⟩:=hw.sub e ho;exact absurd ⟨fs,ho,h2⟩ (h1 yn)
theorem a5L (rows:List Rw) (k:Nat):(rows.take k).flatMap vK=(rows.flatMap vK).take (k*2):=by
 induction k generalizing rows with
 | zero=>rw [Nat.zero_mul];rfl
 | succ k ih =>
  cases rows with
  | nil=>rw [take_nil];rfl
  | cons r rows =>
   rw [take_succ_cons,flatMap_cons,flatMap_cons,ih,take_append,take_of_length_le (l:=vK r) (by rw [Cx];omega),Cx,show (k+1)*2-2=k*2 by omega]
theorem a7c (rows:List Rw) (k:Nat):(rows.drop k).flatMap vK=(rows.flatMap vK).drop (k*2):=by
 induction k generalizing rows with
 | zero=>rw [Nat.zero_mul];rfl
 | succ k ih =>
  cases rows with
  | nil=>rw [List.drop_nil];rfl
  | cons r rows =>
   rw [drop_succ_cons,flatMap_cons,ih,drop_append,show (vK r).drop ((k+1)*2)=[] from drop_eq_nil_of_le (by rw [Cx];omega),Cx,show (k+1)*2-2=k*2 by omega];rfl
theorem j6.take {w:World} {B:Nat} {A:OA} {rows:List Rw} (h:j6 w B A rows) (k:Nat):j6 w B A (rows.take k):=by
 refine ⟨aT (by rw [length_take];omega) h.n,?_,fun r hr=>h.each r (mem_of_mem_take hr)⟩;rw [a5L];rcases h.row with h0 | ⟨b,off,e,hb,hc⟩
 .rw [h0,take_nil];exact .inl rfl
 .refine .inr ⟨b,off,e,hb,fun i v hv => ?_⟩;rw [getElem?_take] at hv;split at hv
  .exact hc i v hv
  .cases hv
def EM (A:OA) (k c:Nat):OA:=if c=k then A else A.map fun a=>a.add (k*2)
theorem j6.drop {w:World} {B c:Nat} {A:OA} {rows:List Rw} (h:j6 w B A rows) (hc:rows.length<=c) (k:Nat):j6 w B (EM A k c) (rows.drop k):=by
 refine ⟨aT (by rw [length_drop];omega) h.n,?_,fun r hr=>h.each r (mem_of_mem_drop hr)⟩;rw [a7c];have hl:(rows.flatMap vK).length=rows.length*2:=kI Cx rows;by_cases hk:k<rows.length
 .unfold EM;rw [if_neg (by omega)];rcases h.row with h0 | ⟨b,off,e,hb,nZ⟩
  .rw [h0,List.drop_nil];exact .inl rfl
  .refine .inr ⟨b,off+k*2,by rw [e];exact congrArg some (xO b off (k*2)),hb,fun i v hv => ?_⟩;rw [getElem?_drop] at hv;rw [Nat.add_assoc];exact nZ _ v hv
 .rw [drop_eq_nil_of_le (by omega)];exact .inl rfl
theorem Yp:(Tryz.prog.info? 60).map (·.size)=some 2:=by kernel_rfl
theorem a0I (A:OA) (n c k:Nat) (h:k<=c) (W:World):(Instr.slice 26 (.slice A n c) none (some (.int .i64 (k:Nat))) none).run Tryz.prog W = .ok (.slice A k c) W:=by
 obtain ⟨j,hj,LA⟩:=Option.map_eq_some_iff.1 Yp;have hn:((k:Nat):Int)<=(c:Int):=by omega
 cases A<;>simp [go_sem,Tryz.underlying26,hj,LA,Addr.add,hn]
theorem Y' (A:OA) (n c k:Nat) (h:k<=n) (hc:n<=c) (W:World):(Instr.slice 26 (.slice A n c) (some (.int .i64 (k:Nat))) none none).run Tryz.prog W = .ok (.slice (EM A k c) (n-k) (c-k)) W:=by
 obtain ⟨j,hj,LA⟩:=Option.map_eq_some_iff.1 Yp;have hn:((k:Nat):Int)<=(n:Int):=by omega
 unfold EM;by_cases hk:c=k<;>cases A<;>simp [go_sem,Tryz.underlying26,hj,LA,Addr.add,hn,hk]
structure xL (s:aW) (EB:List Rw) (w W8 wr:World) (q k:Nat) (bs:List (List Rw)) (ls:List (List aI)) (gs:LN) (rest:List Rw) (Ar:OA) (cr:Nat) (Ac:OA) (cc:Nat):Prop where
 parts:rq s bs ls
 cut:EB=bs.flatten++rest
 nb:bs.length=k
 FF:gs.length=k
 fin:k=q+1->rest=[]
 rows:j6 w w.heap.size Ar rest
 cap:rest.length<=cr
 bJ:Below W8.heap.size W8 wr
 own:wr.ownsRow W8.heap.size 36 1 (.slice Ac gs.length cc) gs.length (gs.map ptr)
 RK:∀ (i g:Nat) (ns:List aI),gs[i]? = some g->ls[i]? = some ns->hJ wr (fun k=>(Value.slice Ac gs.length cc).ownBlock≠some k) g (dX s) s.aU.length ns
section
variable {s:aW} {EB rest b:List Rw} {w W8 wr w':World} {q k:Nat} {bs:List (List Rw)} {ls:List (List aI)} {gs:LN} {Ar Ac:OA} {cr cc:Nat} {n:List aI}
theorem xL.below (h:xL s EB w W8 wr q k bs ls gs rest Ar cr Ac cc) (hb:Below wr.heap.size wr w'):xL s EB w W8 w' q k bs ls gs rest Ar cr Ac cc :=
 ⟨h.parts,h.cut,h.nb,h.FF,h.fin,h.rows,h.cap,h.bJ.trans (hb.mono h.bJ.size),eV h.own hb,fun i g ns h1 h2=>(h.RK i g ns h1 h2).same hb.size fun k hk _=>hb.block k hk⟩
theorem xL.at_ (h:xL s EB w W8 wr q k bs ls gs rest Ar cr Ac cc):Fl wr gs (dX s) s.aU.length ls:=⟨by rw [h.FF,<-h.nb,h.parts.len],fun i g ns h1 h2=>(h.RK i g ns h1 h2).at_⟩
theorem xL.push (h:xL s EB w W8 wr q k bs ls gs rest Ar cr Ac cc) {g p z:Nat} {A':OA} {c':Nat} (hn:FC s b n) (hg:hJ wr (fun k=>z<=k) g (dX s) s.aU.length n) (hz:∀j,(Value.slice Ac gs.length cc).ownBlock=some j->j<z)
 (ha:App wr w' (.slice Ac gs.length cc) (.slice A' (gs.length+1) c')) (ho:w'.ownsRow W8.heap.size 36 1 (.slice A' (gs.length+1) c') (gs.length+1) (gs.map ptr++[ptr g])) (hb:b=rest.take p) (sO:k+1=q+1->rest.length<=p) :
 xL s EB w W8 w' q (k+1) (bs++[b]) (ls++[n]) (gs++[g]) (rest.drop p) (EM Ar p cr) (cr-p) A' c':=by
 have aE:∀j,(Value.slice Ac gs.length cc).ownBlock≠some j->j<wr.heap.size->(Value.slice A' (gs.length+1) c').ownBlock≠some j:=fun j hj ae e=>by
  rcases ha.qH with hl | ⟨i,hl,hi⟩
  .rw [hl] at e;exact hj e
  .rw [hl] at e;injection e with e
   omega
 have Lt:(gs++[g]).length=gs.length+1:=by rw [aS];rfl
 have key:∀ {P:Nat->Prop} {g:Nat} {ns:List aI},hJ wr P g (dX s) s.aU.length ns->(∀j,P j->(Value.slice Ac gs.length cc).ownBlock≠some j)->hJ w' (fun k=>(Value.slice A' (gs++[g]).length c').ownBlock≠some k) g (dX s) s.aU.length ns:=fun hp hP =>
  ((hp.both).same (w':=w') ha.grown.size fun j hj hpj=>ha.de hj (hP j hpj.1)).imp fun j hj=>by
    rw [aS];exact aE j (hP j hj.1) hj.2
 refine ⟨h.parts.snoc hn,?_,by rw [aS,h.nb];rfl,by rw [Lt,h.FF],fun e => ?_,h.rows.drop h.cap p,by rw [length_drop];have:=h.cap;omega,?_,?_,fun i g' ns h1 h2 => ?_⟩
 .rw [h.cut,hb,flatten_append];simp
 .exact drop_eq_nil_of_le (sO e)
 .exact ha.mO h.bJ h.own (ah _) h.bJ.size
 .rw [Lt,map_append];exact ho
 .have dR:gs.length=ls.length:=by rw [h.FF,<-h.nb,h.parts.len]
  rw [Lt];by_cases hi:i<gs.length
  .rw [getElem?_append_left hi] at h1;rw [getElem?_append_left (by omega)] at h2;have:=key (h.RK i g' ns h1 h2) fun j hj=>hj
   rw [aS] at this;exact this
  .rw [getElem?_append_right (by omega)] at h1;rw [getElem?_append_right (by omega),<-dR] at h2;rcases hd:i-gs.length with _ | d
   .rw [hd] at h1 h2;injection h1 with h1
    injection h2 with h2
    subst h1 h2;have:=key hg fun j hj e=>by have:=hz j e;omega
    rw [aS] at this;exact this
   .rw [hd] at h1;cases h1
end
section
attribute [local go_sem] a0I Y'
theorem a6d (w:World) (e:TypeId):(w.alloc (.cells #[] e)).ownsRow w.heap.size e 1 (.slice (some ⟨w.heap.size,0,none⟩) 0 0) 0 [] :=
 ⟨rfl,.inr ⟨w.heap.size,0,#[],rfl,ah _,aa.new w e #[],ah _,aZ _,rfl,rfl⟩⟩
theorem abi (z:Int) (n:Nat):∃p:Nat,min (max z 0) (n:Int)=(p:Int)/\p<=n/\((n:Int)<=z->n<=p):=by
 refine ⟨(min (max z 0) (n:Int)).toNat,?_,?_,?_⟩<;>omega
theorem aaS (s:aW) (A:OA) (rows:List Rw) (c:Nat) (A2:OA) (qs:List Int) (c2:Nat) (w:World) (h:gW w w.heap.size s) (hr:j6 w w.heap.size A rows) (hrc:rows.length<=c) (fj:c<=9223372036854775807) (hq:Row w w.heap.size A2 (qs.map (.int .i64))) (vY:qs.length<=9223372036854775807) :
 Calls Tryz.prog 3 #[.agg (cj s),.slice A rows.length c,.slice A2 qs.length c2] w (eW (fun r=>r=true) w):=by
 obtain ⟨i0,cG,cI,cH,cJ⟩:=info_parts vV;obtain ⟨j0,VW,VX,VY,VZ⟩:=info_parts Zo;have HR:=kp (fun r w' h hb=>eW.mono (P:=fun r=>r=true) (w:=w) (r:=r) (w':=w') h hb);have au:=(aq w.heap.size w).alloc (ah _) (.cells (cj s) 25);have G':=kp (aa.new w 25 (cj s));have ay:=kp au;have EC:=kp (fun W (hW:Below w.heap.size w W)=>(h.below hW).more hW.size);have H6:=kp hr;have Hq:=kp hq;have zF:=kp (show ∀W,Below w.heap.size w W->Calls Tryz.prog 4 #[.agg (cj s),.slice A rows.length c,.int .i64 5,.int .i64 40] W (eW (fun r=>r=true->qI s rows/\s.ak.length<=5/\rows.length<=40) W) from fun W hW=>a6H s A rows c 5 40 W (EC.o W hW) ((hr.below hW).more hW.size) (by decide) (by decide));have HI:=kp (fun A' Pj c' W (hW:Below w.heap.size w W) (jb:j6 w w.heap.size A' Pj) (ho:Wb s Pj)=>a90 (s:=s) (c:=c') (EC.o W hW) ((jb.below hW).more hW.size) ho);have WU:=kp (fun W (hW:Below w.heap.size w W) ho=>a6C s A rows c W (EC.o W hW) ((hr.below hW).more hW.size) ho);have Ez:=kp a6Q;have HWd:=kp a9k;have WV:=kp (fun Af cf fs Pj W (hW:Below w.heap.size w W) (hf:dG W W.heap.size Af fs) (ho:oN s Pj fs)=>a0O (cf:=cf) (EC.o W hW) hf ho);have BK:=kp (show ∀r∈rows,∀x∈r.dP,fit x from fun r jb x hv=>Xj ((hr.each r jb).wf x hv));generalize eW (fun r=>r=true) w=Q at *;clear h hr hq au;unfold cj at G' ay zF HI WU WV ⊢;obtain ⟨z0,z1,_,_⟩:=G'.o.two;generalize dj:w.alloc (.cells #[.slice s.A s.ak.length s.c,.slice s.Am s.aU.length s.cm] 25)=W0 at *;have cQ:=kp (zF.o W0 ay.o);go_enter Tryz.func3,Tryz.ntmps3;go_wp2_with fail;refine cQ.o.mono ?_;clear dj z0 z1 cQ zF;rintro e w1 ⟨r1,rfl,eC,ax⟩;have aM:=aR ay ax;have uz:=bu G' ax;clear ax G' ay;cases r1 with
 | false =>
  go_wp2_with fail;refine (Ez.o w1).mono ?_;rintro e w3 ⟨_,rfl,rfl,aN⟩;have Hf:=kp (HR.o true w3 rfl (aM.o.trans (aN.mono aM.o.size)));go_wp2_with fail;exact Hf.o
 | true =>
 obtain ⟨ho,mC,a4O⟩:=eC rfl;have Ho:=kp ho;have WW:=kp a4O;clear ho mC a4O eC;by_cases hq8:8<qs.length
 .have q8:(8:Int)<(qs.length:Int):=by omega
  have q8d:decide ((8:Int)<(qs.length:Int))=true:=decide_eq_true q8;go_wp2_with fail;refine (Ez.o w1).mono ?_;rintro e w3 ⟨_,rfl,rfl,aN⟩;have Hf:=kp (HR.o true w3 rfl (aM.o.trans (aN.mono aM.o.size)));go_wp2_with fail;exact Hf.o
 have Eh:=kp (WU.o w1 aM.o Ho.o);obtain ⟨z0,z1,_,_⟩:=uz.o.two;have q8:¬ (8:Int)<(qs.length:Int):=by omega
 have q8d:decide ((8:Int)<(qs.length:Int))=false:=decide_eq_false q8;go_wp2_with fail;refine Eh.o.mono ?_;clear z0 z1 q8 q8d Eh WU;rintro e w2 ⟨Aa,ca,la,rfl,xZ,nH,aH⟩;have aF:=aR aM aH;have GN:=bu uz aH;have BZ:=kp nH;have aes:la.length<=40:=by rw [nH.1];exact WW.o
 have Pg:=kp (HWd.o Aa la ca w2 xZ (by omega) (fun f hf=>by
  obtain ⟨i,hi,rfl⟩:=getElem_of_mem hf;have OQ:i<rows.length:=by rw [<-nH.1];exact hi
  have hk:=(Ym Ho.o.eF (nH.2 i _ _ (gE OQ) (gE hi)).1).len;have:=Ho.o.eF.n2
  omega))
 clear aH xZ nH uz aM aes HWd;go_wp2_with fail;refine Pg.o.mono ?_;clear Pg;rintro e w3 ⟨r3,rfl,uZ,aN⟩;have bC:=aR aF aN;cases r3 with
 | false =>
  clear uZ aN;go_wp2_with fail;refine (Ez.o w3).mono ?_;rintro e w6 ⟨_,rfl,rfl,eR⟩;have Hf:=kp (HR.o true w6 rfl (bC.o.trans (eR.mono bC.o.size)));go_wp2_with fail;exact Hf.o
 | true =>
 have KV:=bu GN aN;have Es:=kp (show Wb s rows from ⟨Ho.o,WW.o,BK.o,la,BZ.o,uZ rfl⟩);clear uZ aN GN aF BZ BK Ho;have HI3:=kp (HI.o A rows c w3 bC.o H6.o Es.o);obtain ⟨z0,z1,_,_⟩:=KV.o.two;go_wp2_with fail;refine HI3.o.mono ?_;clear z0 z1 HI3;rintro e w4 ⟨Al,cl,l,rfl,LF,DD,cq⟩;have bH:=aR bC cq;have WX:=bu KV cq;have HC4:=kp (WV.o Al cl l rows w4 bH.o DD LF);clear LF DD cq KV bC;obtain ⟨z0,z1,_,_⟩:=WX.o.two;go_wp2_with fail;refine HC4.o.mono ?_;clear z0 z1 HC4;rintro e w5 (⟨ns,ga,rfl,LF,qE,cV⟩ | ⟨_,rfl,cV⟩)
 case inr =>
  have bZ:=aR bH cV;clear cV;go_wp2_with fail;refine (Ez.o w5).mono ?_;rintro e w6 ⟨_,rfl,rfl,eR⟩;have Hf:=kp (HR.o true w6 rfl (bZ.o.trans (eR.mono bZ.o.size)));go_wp2_with fail;exact Hf.o
 have bZ:=aR bH cV;have HS5:=bu WX cV;have Cw:=kp LF;have GU:=kp qE.at_;clear cV LF qE WX bH;have gR:=kp (a6d w5 3);have eR:=(aq w5.heap.size w5).alloc (ah _) (.cells #[] 3);have Hq6:=kp ((Hq.o.below (bZ.o.trans (eR.mono bZ.o.size))).more (aT bZ.o.size eR.size));have eI:=kp eR;have lj:∀u∈qs.map (Value.int .i64),u.oneCell'=true:=fun u hu=>by obtain ⟨x,_,rfl⟩:=mem_map.1 hu;rfl
 have Kl:=kp lj;have gY:(qs.map (Value.int .i64)).length=qs.length*1:=by rw [lM,Nat.mul_one]
 have WY:=kp gY;clear eR lj gY;obtain ⟨q,nE⟩:∃q,qs.length=q:=⟨_,rfl⟩
 have E9:=kp nE;rw [nE] at WY hq8 vY ⊢;clear nE
 go_wp2_with (at_builtin;refine Rk rfl (.tmp 71) (.tmp 72) 27 rfl w5.heap.size 3 i0 (.int .i64 0) 1 8 Tryz.underlying27 cG cI cH cJ rfl (by decide) (w5.alloc (.cells #[] 3)) (.slice (some ⟨w5.heap.size,0,none⟩) 0 0) 0 [] rfl gR.o A2 q c2 _ (qs.map (Value.int .i64)) rfl WY.o Hq6.o Kl.o (by omega) (by decide) eI.o.size ?_)
 intro v7 w7 ur Kw;obtain ⟨A7,c7,rfl⟩:=eM ur;have DT:=kp ur;have fE:=kp (Kw.mO eI.o gR.o (ah _) eI.o.size);clear ur Kw gR eI Hq6
 go_wp2_with (at_builtin;refine tE rfl (.tmp 73) (.tmp 76) 27 rfl w5.heap.size 3 i0 (.int .i64 0) 8 Tryz.underlying27 cG cI cH cJ rfl w7 (.int .i64 rows.length) rfl (.slice A7 q c7) q (qs.map (Value.int .i64)) rfl DT.o rfl (by omega) (by decide) fE.o.size ?_)
 intro v8 w8 GG a4P;obtain ⟨A8,c8,rfl⟩:=eM GG;have vt:=kp (a4P.mO fE.o DT.o (ah _) fE.o.size);have JP:=kp (fun W (hW:Below w8.heap.size w8 W)=>((gV GG).below hW).more hW.size)
 have Iq:=kp (show ∀k (hk:k<(qs.map (Value.int .i64)++[Value.int .i64 rows.length]).length),∃z:Int,(qs.map (Value.int .i64)++[Value.int .i64 rows.length])[k]=Value.int .i64 z/\(k=q->z=(rows.length:Nat)) from fun k hk=>by
  by_cases hkq:k<q
  .have h1:k<(qs.map (Value.int .i64)).length:=by rw [lM,E9.o];exact hkq
   rw [getElem_append_left h1,getElem_map];exact ⟨_,rfl,fun e=>by omega⟩
  .rw [aS,lM,E9.o] at hk;have cz:k=q:=by simp at hk;omega
   have h1:¬k<(qs.map (Value.int .i64)).length:=by rw [lM,E9.o];omega
   rw [getElem_append_right (by omega)];refine ⟨(rows.length:Nat),?_,fun _=>rfl⟩
   simp)
 have ti:=kp (show (qs.map (Value.int .i64)++[Value.int .i64 rows.length]).length=q+1 by rw [aS,lM,E9.o];rfl);generalize qs.map (Value.int .i64)++[Value.int .i64 rows.length]=cv at *;have LG:=kp (bZ.o.trans (vt.o.mono bZ.o.size));have WZ:=kp (HS5.o.under vt.o);have a4Q:=kp (GU.o.below vt.o);have Im:=kp (show xL s rows w w8 w8 q 0 [] [] [] rows A c none 0 from ⟨trivial,rfl,rfl,rfl,fun e=>(by cases e),H6.o,hrc,aq _ _,gL _ _ _ _,fun i g ns h1=>(by cases h1)⟩);clear GG a4P DT fE Kl WY Hq E9 HS5 GU bZ vt fj vY;go_wp2_with fail
 go_loopw [1,11,79] (fun v1 pr X0 wr=>∃ (k:Nat) (bs:List (List Rw)) (ls:List (List aI)) (gs:LN) (rest:List Rw) (Ar:OA) (cr:Nat) (Ac:OA) (cc:Nat),k<=q+1/\X0 = .int .i64 (k:Nat)/\v1 = .slice Ar rest.length cr/\pr = .slice Ac gs.length cc/\xL s rows w w8 wr q k bs ls gs rest Ar cr Ac cc) (fun _ _ X0 _=>q+1-(intOf X0).toNat)
 case atStart=>exact ⟨0,[],[],[],rows,A,c,none,0,aZ _,rfl,rfl,rfl,Im.o⟩
 case round =>
  clear Im;obtain ⟨k,bs,ls,gs,rest,Ar,cr,Ac,cc,hk,rfl,rfl,rfl,hM⟩:=hrel;have HM:=kp hM;clear hM;by_cases ae:k<q+1
  .have sl:k<cv.length:=by rw [ti.o];exact ae
   obtain ⟨bc,oc,rfl,cU,c0⟩:=Row.at_ (JP.o wr HM.o.bJ) sl;obtain ⟨z,hz,hzq⟩:=Iq.o k sl;rw [hz] at c0;obtain ⟨p,hp,Dp,hpz⟩:=abi z rest.length;have uC:=HM.o.cap
   have bN:=kp (show k+1=q+1->rest.length<=p from fun e=>hpz (by
    rw [hzq (by omega)];have:=congrArg length HM.o.cut;rw [aS] at this
    omega))
   have HE:=kp (show rows=bs.flatten++(rest.take p++rest.drop p) by rw [take_append_drop];exact HM.o.cut);have Htl:=kp (show (rest.take p).length=p by rw [length_take];omega);have i0':(0:Int)<=(k:Int):=by omega
   have i1':(k:Int)<((q+1:Nat):Int):=by omega
   have It:=kp (WZ.o.under HM.o.bJ);have xp:=kp (LG.o.trans (HM.o.bJ.mono LG.o.size));clear sl hz hzq hpz;go_upto_region 12 with fail
   clear c0;have Io:p<=cr:=by omega
   have qb:=fun W=>a0I Ar rest.length cr p Io W
   have X1:=kp (fun W (hW:Below wr.heap.size wr W)=>HI.o Ar (rest.take p) cr W (xp.o.trans (hW.mono xp.o.size)) (HM.o.rows.take p) (Es.o.part HE.o));rw [Htl.o] at X1;obtain ⟨z0,z1,_,_⟩:=It.o.two;refine wp_region_noPanic ?_;refine dt (t:=99) (S:=(fun w'=>(w'.cell? ⟨w.heap.size,0,none⟩=some (.slice s.A s.ak.length s.c)/\w'.cell? ⟨w.heap.size,1,none⟩=some (.slice s.Am s.aU.length s.cm))/\Below wr.heap.size wr w')) (by kernel_rfl) ⟨⟨z0,z1⟩,(aq _ _).drew⟩ (fun ad => ?_);refine tD 0 1 2 3 ad ?_;refine oT 4 fun K hK=>?_
   go_simp
   refine (X1.o _ ad.2).mono ?_;rintro e yx ⟨A10,iw,l10,rfl,a4R,a4S,AJ⟩;refine oK hK ?_ fun af=>?_
   .exact ⟨⟨aL AJ ad.1.1,aL AJ ad.1.2⟩,ad.2.trans (AJ.mono ad.2.size)⟩
   replace ad:=af;clear hK K af;refine tD 5 6 7 8 ad ?_;refine tk 9 ad ?_;refine dY (by kernel_rfl) ?_ _
   try clear ad
   refine NoPanic.normal ?_;have Pm:Below wr.heap.size wr yx:=(aq _ wr).drew.trans AJ;have tw:=kp (HM.o.below Pm);have a4T:=aR xp Pm;have a4U:=bu It Pm;have mE:=kp (a9t (cf:=iw) Cw.o HE.o (EC.o yx a4T.o) a4S a4R);unfold cj at mE;clear z0 z1 qb a4R a4S AJ Pm X1 HM It xp;obtain ⟨z0,z1,_,_⟩:=a4U.o.two;go_wp2_with fail;refine mE.o.mono ?_;clear z0 z1 mE;rintro e Cq ⟨n11,X2,rfl,a4V,a4W,Lj⟩;have X3:=kp (tw.o.below Lj);have Hzz:=kp (show ∀j,(Value.slice Ac gs.length cc).ownBlock=some j->j<yx.heap.size from fun j hj=>(tw.o.own.lt j hj).2);have aet:=kp a4V;have a4X:=kp a4W;clear a4V a4W Lj tw a4U a4T;go_upto_region 16 with fail
   have qb:=fun W=>Y' Ar rest.length cr p Dp uC W
   have yC:=kp (X3.o.below ((aq _ Cq).drew));have Had:=kp (show hJ Cq.drew (fun k=>yx.heap.size<=k) X2 (dX s) s.aU.length n11 from a4X.o.same (ah _) (fun k _ _=>rfl));have hg9:gs.length<1048576*64:=by have:=X3.o.FF;omega
   have ku:=yC.o.bJ.size;clear X3 a4X;refine wp_region_noPanic ?_;refine dt (t:=99) (S:=(fun _=>True)) (by kernel_rfl) trivial (fun ad => ?_);generalize Cq.drew=wd at *;refine tD 0 1 4 5 ad ?_;refine tk 6 ad ?_;refine oT 2 fun K hK=>?_
   go_simp
   refine oK hK ?_ fun af=>?_
   .trivial
   replace ad:=af;clear hK K af;refine oT 3 fun K hK=>?_
   refine xB rfl (.tmp 108) (.tmp 110) 39 rfl w8.heap.size 36 j0 (.pointer none) 8 Tryz.underlying39 VW VX VY VZ rfl wd (.pointer (some ⟨X2,0,none⟩)) rfl (.slice Ac gs.length cc) gs.length (gs.map ptr) rfl yC.o.own rfl hg9 (by decide) ku ?_;intro kq w12 X4 a4Y;obtain ⟨A12,O2,rfl⟩:=eM X4
   go_simp
   refine oK hK ?_ fun af=>?_
   .trivial
   replace ad:=af;clear hK K af;refine tB 7 8 ad ?_;refine dY (by kernel_rfl) ?_ _
   try clear ad
   refine NoPanic.normal ?_;have aeu:=kp (yC.o.push (p:=p) aet.o Had.o Hzz.o a4Y X4 rfl bN.o);clear X4 a4Y qb;go_wp2_with fail;refine ⟨⟨k+1,bs++[rest.take p],ls++[n11],gs++[X2],rest.drop p,EM Ar p cr,cr-p,A12,O2,by omega,by go_num,by rw [length_drop],by rw [aS];rfl,aeu.o⟩,by simp [intOf];omega⟩
  .obtain rfl:k=q+1:=by omega
   have zP:=HM.o.fin rfl;have hcut:=HM.o.cut;rw [zP,append_nil] at hcut;have qi:=HM.o.FF;have dR:=HM.o.parts.len;have Bs:=HM.o.nb;obtain ⟨iv,nI⟩:=CC HM.o.own;have dg:1<=s.aU.length:=Cw.o.ar.m1;have HMn:=kp (a8n (gV HM.o.own) iv nI HM.o.at_ HM.o.parts.ar dg (by omega) (Z3 Cw.o (q+1) bs ls (by omega) (fun e=>by rw [e] at Bs;cases Bs) HM.o.parts hcut.symm));have xp:=kp (LG.o.trans (HM.o.bJ.mono LG.o.size));have It:=kp (WZ.o.under HM.o.bJ);have GW:=kp (a4Q.o.below HM.o.bJ);have eP:=kp Cw.o.ar;have Lg:=kp (Cw.o.fin (b:=131072) (by decide) (by decide))
   have HP:=kp (show ns≠[]->oM (jt (dX s).length ns) 0 [ns.length-1] ns.length from fun av=>by
    obtain ⟨l',h1,h2⟩:=Cw.o;rw [show (dX s).length=s.ak.length from lM _]
    exact a6P h1.eF h2 av)
   have X5:=kp (fun W g (hW:Below w.heap.size w W) (hg:ft W g (dX s) s.aU.length ns)=>show Calls Tryz.prog 13 #[.agg (cj s),.pointer (some ⟨g,0,none⟩)] W (iC W) from by
    obtain ⟨l',h1,h2⟩:=Cw.o
    exact a7W (EC.o W hW) h1.eF h1.ok h2 hg eP.o)
   unfold cj at X5;clear zP hcut qi dR Bs iv nI dg HM LG WZ a4Q JP Iq ti HI WV Es Cw EC H6 WW;go_wp2_with fail;refine HMn.o.mono ?_;clear HMn;rintro e Ig ⟨go,rfl,qE,Pn⟩;have X6:=kp qE.at_;have X7:=kp (GW.o.below Pn);have a4Z:=aR xp Pn;have a4':=bu It Pn;have HE:=kp (Yo X6.o X7.o eP.o);clear qE Pn GW xp It;go_wp2_with fail;refine HE.o.mono ?_;clear HE;rintro e w14 ⟨rfl,Cu⟩;have X8:=kp (X6.o.below Cu);have X9:=kp (X7.o.below Cu);have a52:=aR a4Z Cu;have a56:=bu a4' Cu;have HE:=kp (a8A X9.o X8.o eP.o Lg.o.leads);clear Cu X6 X7 a4Z a4';go_wp2_with fail;refine HE.o.mono ?_;clear HE;rintro e WT ⟨rfl,Cv⟩;have Xa:=kp (X8.o.below Cv);have a57:=kp (X9.o.below Cv);have Xb:=aR a52 Cv;have a5a:=bu a56 Cv;have HE:=kp (X5.o WT go Xb.o Xa.o);clear Cv X8 X9 a52 a56;obtain ⟨z0,z1,_,_⟩:=a5a.o.two;go_wp2_with fail;refine HE.o.mono ?_;clear HE z0 z1;rintro e w16 ⟨rfl,Po⟩;have Xc:=kp (Xa.o.below Po);have a5b:=kp (a57.o.below Po);have a5c:=aR Xb Po;have HE:=kp (a9L Xc.o eP.o HP.o);clear Po Xa a57 Xb a5a X5;go_wp2_with fail;refine HE.o.mono ?_;clear HE;rintro e w17 ⟨rfl,Pp⟩;have a5d:=kp (Xc.o.below Pp);have a5e:=kp (a5b.o.below Pp);have a5f:=aR a5c Pp;have HE:=kp (Zh a5d.o eP.o Lg.o);have Gh:=kp (fun W (hW:ft W ga (dX s) s.aU.length ns)=>Zh hW eP.o Lg.o);generalize yY (dX s).length s.aU.length 1048576 ns=R at *;obtain ⟨R1,R2,R3⟩:=R;clear Pp Xc a5b a5c HP;go_wp2_with fail;refine HE.o.mono ?_;clear HE;rintro e w18 ⟨rfl,Xd⟩;have a5g:=kp (a5e.o.below Xd);have a5h:=aR a5f Xd;clear Xd a5d a5e a5f;dsimp only;go_wp2_with fail;refine (Gh.o _ a5g.o).mono ?_;clear Gh;rintro e w19 ⟨rfl,a5i⟩;have a5j:=aR a5h a5i;clear a5i a5g a5h;dsimp only;go_wp2_with fail;refine (Ez.o w19).mono ?_;rintro e w20 ⟨_,rfl,rfl,aev⟩;have Hf:=kp (HR.o true w20 rfl (a5j.o.trans (aev.mono a5j.o.size)));go_wp2_with fail;exact Hf.o
end
end Go.Proofs.YtjopcamkclndlaaGreat.Tc
namespace Go.Proofs.YtjopcamkclndlaaGreat.topMerge
open List Go.ChangeShapes Go.WideShapes Go.RowKit Base Tc
theorem walk {H:Type} {enc:TypeId×Value->H} {base:Nat} {d0 d1 d2:DataW H} {p0 p1 p2:List MemPlace} (v0 v1 v2:Value) (w:World)
 (hv0:Value.okWide Tryz.prog w .any base 25 v0) (ht0:DataW.Trod enc Tryz.prog w 0 (fun _=>true) true 25 v0 d0 p0)
 (zI:Value.okWide Tryz.prog w .any base 26 v1) (zw:DataW.Trod enc Tryz.prog w 0 (fun _=>true) true 26 v1 d1 p1)
 (Ko:Value.okWide Tryz.prog w .any base 27 v2) (uj:DataW.Trod enc Tryz.prog w 0 (fun _=>true) true 27 v2 d2 p2) :
 Calls Tryz.prog 3 #[v0,v1,v2] w fun e w'=>e = .returned (.bool true)/\Below w.heap.size w w':=by
 obtain ⟨s,rfl,hs⟩:=aaf hv0 ht0;obtain ⟨o1,n1,k1,rfl⟩:=okWide_slice Tryz.underlying26 zI;obtain ⟨f1,h1⟩:=zw;obtain ⟨A1,l1,c1,aew,iT,dg,eC,qv⟩:=a8k (v := .slice o1 n1 k1) h1;rw [aew];obtain ⟨A2,l2,c2,rfl,mZ,qR,lZ,_⟩:=abD Tryz.underlying27 Tryz.underlying3 (by kernel_rfl) Ko uj;refine (aaS s A1 l1 c1 A2 l2 c2 w hs ⟨Nat.le_trans iT dg,eC,qv⟩ iT dg lZ (Nat.le_trans mZ qR)).mono ?_;rintro e w' ⟨r,rfl,rfl,hb⟩;exact ⟨rfl,hb⟩
end Go.Proofs.YtjopcamkclndlaaGreat.topMerge
namespace Go.Proofs.YtjopcamkclndlaaGreat.topMerge
open List Go.ChangeShapes Go.WideShapes Go.ChangeAt Go.RowKit Base
open Go.ChangeMaps (open_string shut_string)
theorem own:ownKnob Tryz.prog.godebug=none:=by kernel_rfl
theorem laidOut:laidOutB Tryz.prog=true:=by kernel_rfl
theorem lifted (os:Os) (Xe:os.Started) (H:Type) (enc:TypeId×Value->H) :
 ReturnsInHanded {} Tryz.checked os 3 .any (Rows.topMergeSpec.pre6 enc Tryz.prog Tryz.f3 Rows.topMergeRow.domain false) (Rows.topMergeSpec.post enc Tryz.prog Tryz.f3 false true false false):=by
 refine returnsInHanded_of_change (C:=Tryz.checked) own Xe (by kernel_rfl) Tryz.func3
  (ChangeSpec.witness6 (enc:=enc) (C:=Tryz.checked) false ⟨#[],#[.agg #[.slice none 0 0,.slice none 0 0],.slice none 0 0,.slice none 0 0],[]⟩ 8 (by kernel_rfl) (by kernel_rfl) (by kernel_rfl) (by kernel_rfl)) ?_
 intro W base args ds gs afb aex hW afc _;have Pq:∀ (j:Nat) t v,Tryz.f3.params[j]? = some t->args[j]? = some v->Value.okWide Tryz.prog W .any base t v:=aex;have hW':=hW;obtain ⟨p,q,hA0,hV,rfl,hfz,da⟩:=hW;have hA:DataW.TrodAll enc Tryz.prog W 0 (fun _=>true) true Tryz.f3.params.toList args.toList ds p:=hA0;rw [Tryz.params3] at hA Pq;obtain ⟨v0,vs0,d0,ds0,p0,q0,afd,rfl,rfl,h0,r0⟩:=trodAll_cons hA;obtain ⟨v1,vs1,d1,ds1,p1,q1,rfl,rfl,rfl,h1,r1⟩:=trodAll_cons r0;obtain ⟨v2,vs2,d2,ds2,p2,q2,rfl,rfl,rfl,h2,r2⟩:=trodAll_cons r1;obtain ⟨rfl,rfl,rfl⟩:=trodAll_nil r2;obtain rfl:args=#[v0,v1,v2]:=by cases args;simp_all
 obtain ⟨rfl,rfl⟩:=trodVars_none hV;have k0:=h0;have lt0:∀x∈p0,x.block<W.heap.size:=by obtain ⟨m,hm⟩:=k0;exact DataW.trod_lt m _ _ _ hm
 have k1:=h1;have lt1:∀x∈p1,x.block<W.heap.size:=by obtain ⟨m,hm⟩:=k1;exact DataW.trod_lt m _ _ _ hm
 have k2:=h2;have lt2:∀x∈p2,x.block<W.heap.size:=by obtain ⟨m,hm⟩:=k2;exact DataW.trod_lt m _ _ _ hm
 refine (walk v0 v1 v2 W (Pq 0 25 v0 rfl rfl) h0 (Pq 1 26 v1 rfl rfl) h1 (Pq 2 27 v2 rfl rfl) h2).mono fun e W' ⟨he,bJ⟩ => ?_
 subst he;exact ⟨_,rfl,_,_,_,[],_,[],hW',trodAll_mk1 (shut_bool Tryz.underlying4 _),(trodAll_cons_mk (Below.trod laidOut (by kernel_rfl) (of_decide_eq_true (by kernel_rfl)) k0 bJ lt0) (trodAll_cons_mk (Below.trod laidOut (by kernel_rfl) (of_decide_eq_true (by kernel_rfl)) k1 bJ lt1) (trodAll_cons_mk (Below.trod laidOut (by kernel_rfl) (of_decide_eq_true (by kernel_rfl)) k2 bJ lt2) trodAll_mk0))),rfl,bJ.frame _,fun h=>by cases h⟩
theorem yS:Rows.topMergeRow.holds Tryz.pinned (OpenSpec.ofChange Rows.topMergeSpec) :=
 OpenClaim.holds_of_wide 3 Tryz.f3 rfl rfl rfl rfl rfl rfl rfl ⟨rfl,rfl,rfl,rfl,rfl⟩ rfl rfl rfl rfl rfl (by kernel_rfl) Tryz.func3 (by kernel_rfl)
  (of_decide_eq_true (by kernel_rfl)) (by unfold Func.isWrapper;first | (rw [if_pos (by decide +kernel)];kernel_rfl) | (rw [if_neg (by decide +kernel)];exact ⟨rfl,rfl⟩))
  (fun os Xe H enc _=>lifted os Xe H enc)
theorem proved:Rows.TopMergeSaid:=yS
#print axioms proved
end Go.Proofs.YtjopcamkclndlaaGreat.topMerge
