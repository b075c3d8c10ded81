/- Parts of a proof. -/
import Derived.Test.YtjopcamkclndlaaGreatH011
set_option linter.unusedVariables false
set_option linter.unusedSimpArgs false
set_option maxRecDepth 100000
set_option maxHeartbeats 8000000
namespace Go.Proofs.YtjopcamkclndlaaGreat.Tc
open List Go.RowKit Base
def jL (B:Nat):aW:=⟨some ⟨B+7,0,none⟩,[⟨⟨#[100]⟩,some ⟨B+2,0,none⟩,[⟨⟨#[116]⟩,some ⟨B+1,0,none⟩,[⟨#[97]⟩,⟨#[98]⟩],2,none,[],0⟩],1⟩,⟨⟨#[101]⟩,some ⟨B+6,0,none⟩,[⟨⟨#[108,111,119]⟩,some ⟨B+3,0,none⟩,[⟨#[120]⟩,⟨#[121]⟩,⟨#[122]⟩],3,some ⟨B+4,0,none⟩,[0,0,1],3⟩,⟨⟨#[116,111,112]⟩,some ⟨B+5,0,none⟩,[⟨#[112]⟩,⟨#[113]⟩],2,none,[],0⟩],2⟩],2,some ⟨B+8,0,none⟩,[⟨#[109]⟩],1⟩
def yU (B:Nat):List Rw:=[⟨some ⟨B+10,0,none⟩,[⟨#[97]⟩,⟨#[120]⟩],2,some ⟨B+11,0,none⟩,[3],1⟩,⟨some ⟨B+12,0,none⟩,[⟨#[98]⟩,⟨#[121]⟩],2,some ⟨B+13,0,none⟩,[-4],1⟩,⟨some ⟨B+14,0,none⟩,[⟨#[97]⟩,⟨#[122]⟩],2,some ⟨B+15,0,none⟩,[5],1⟩]
def QJ (w:World) (e:Ending) (w':World):Prop:=e = .returned (.tuple #[.agg (cj (jL w.heap.size)),.slice (some ⟨w.heap.size+16,0,none⟩) 3 3])/\gW w' w'.heap.size (jL w.heap.size)/\j6 w' w'.heap.size (some ⟨w.heap.size+16,0,none⟩) (yU w.heap.size)/\Below w.heap.size w w'
theorem Xh (a:UInt8):∀s∈([⟨#[a]⟩]:List ByteArray),s.size<=maxLen:=fun s hs=>by
 rcases mem_cons.1 hs with rfl | hs
 .exact (show (1:Nat)<=maxLen by decide)
 .cases hs
theorem E' (a b:UInt8):∀s∈([⟨#[a]⟩,⟨#[b]⟩]:List ByteArray),s.size<=maxLen:=fun s hs=>by
 rcases mem_cons.1 hs with rfl | hs
 .exact (show (1:Nat)<=maxLen by decide)
 .exact Xh b s hs
theorem a8R (a b c:UInt8):∀s∈([⟨#[a]⟩,⟨#[b]⟩,⟨#[c]⟩]:List ByteArray),s.size<=maxLen:=fun s hs=>by
 rcases mem_cons.1 hs with rfl | hs
 .exact (show (1:Nat)<=maxLen by decide)
 .exact E' b c s hs
theorem qJ {w:World} {g:Nat} {t:TypeId} {cs:AV} (h:aa w g t cs):Row w w.heap.size (some ⟨g,0,none⟩) cs.toList:=by
 refine .inr ⟨g,0,rfl,h.lt,fun i v hv => ?_⟩;rw [Nat.zero_add,h.cell i];simpa using hv
theorem a7X (w:World):Calls Tryz.prog 22 #[] w (QJ w):=by
 have HQ:=kp (show ∀w',gW w' w'.heap.size (jL w.heap.size)->j6 w' w'.heap.size (some ⟨w.heap.size+16,0,none⟩) (yU w.heap.size)->Below w.heap.size w w'->QJ w (.returned (.tuple #[.agg #[.slice (some ⟨w.heap.size+7,0,none⟩) 2 2,.slice (some ⟨w.heap.size+8,0,none⟩) 1 1],.slice (some ⟨w.heap.size+16,0,none⟩) 3 3])) w' from fun w' h1 h2 h3=>⟨rfl,h1,h2,h3⟩);generalize QJ w=Q at *;have hb:=aq w.heap.size w;have oY:w.heap.size=w.heap.size:=rfl;have hb:=hb.alloc (ah _) (.cells #[.slice none 0 0,.slice none 0 0] 25);have cQ:=kp (show aa (w.alloc (.cells #[.slice none 0 0,.slice none 0 0] 25)) (w.heap.size) 25 #[.slice none 0 0,.slice none 0 0] from aa.lay rfl);have fe:(w.alloc (.cells #[.slice none 0 0,.slice none 0 0] 25)).heap.size=w.heap.size+1:=by simp
 generalize dj:w.alloc (.cells #[.slice none 0 0,.slice none 0 0] 25)=W0 at *;have hb:=hb.alloc (by rw [fe];omega) (.cells #[.string ⟨#[97]⟩,.string ⟨#[98]⟩] 9);have bL:=kp (show aa (W0.alloc (.cells #[.string ⟨#[97]⟩,.string ⟨#[98]⟩] 9)) (w.heap.size+1) 9 #[.string ⟨#[97]⟩,.string ⟨#[98]⟩] from aa.lay fe);have HA:∀ {g:Nat} {t:TypeId} {cs:AV},aa W0 g t cs->aa (W0.alloc (.cells #[.string ⟨#[97]⟩,.string ⟨#[98]⟩] 9)) g t cs:=fun h=>h.alloc _
 have kT:(W0.alloc (.cells #[.string ⟨#[97]⟩,.string ⟨#[98]⟩] 9)).heap.size=w.heap.size+2:=by simp [fe]
 generalize dk:W0.alloc (.cells #[.string ⟨#[97]⟩,.string ⟨#[98]⟩] 9)=W1 at *;have cQ:=kp (HA cQ.o);clear HA;have hb:=hb.alloc (by rw [kT];omega) (.cells #[.string ⟨#[116]⟩,.slice (some ⟨w.heap.size+1,0,none⟩) 2 2,.slice none 0 0] 130);have aV:=kp (show aa (W1.alloc (.cells #[.string ⟨#[116]⟩,.slice (some ⟨w.heap.size+1,0,none⟩) 2 2,.slice none 0 0] 130)) (w.heap.size+2) 130 #[.string ⟨#[116]⟩,.slice (some ⟨w.heap.size+1,0,none⟩) 2 2,.slice none 0 0] from aa.lay kT);have HA:∀ {g:Nat} {t:TypeId} {cs:AV},aa W1 g t cs->aa (W1.alloc (.cells #[.string ⟨#[116]⟩,.slice (some ⟨w.heap.size+1,0,none⟩) 2 2,.slice none 0 0] 130)) g t cs:=fun h=>h.alloc _
 have tq:(W1.alloc (.cells #[.string ⟨#[116]⟩,.slice (some ⟨w.heap.size+1,0,none⟩) 2 2,.slice none 0 0] 130)).heap.size=w.heap.size+3:=by simp [kT]
 generalize dN:W1.alloc (.cells #[.string ⟨#[116]⟩,.slice (some ⟨w.heap.size+1,0,none⟩) 2 2,.slice none 0 0] 130)=W2 at *;have cQ:=kp (HA cQ.o);have bL:=kp (HA bL.o);clear HA;have hb:=hb.alloc (by rw [tq];omega) (.cells #[.string ⟨#[120]⟩,.string ⟨#[121]⟩,.string ⟨#[122]⟩] 9);have bM:=kp (show aa (W2.alloc (.cells #[.string ⟨#[120]⟩,.string ⟨#[121]⟩,.string ⟨#[122]⟩] 9)) (w.heap.size+3) 9 #[.string ⟨#[120]⟩,.string ⟨#[121]⟩,.string ⟨#[122]⟩] from aa.lay tq);have HA:∀ {g:Nat} {t:TypeId} {cs:AV},aa W2 g t cs->aa (W2.alloc (.cells #[.string ⟨#[120]⟩,.string ⟨#[121]⟩,.string ⟨#[122]⟩] 9)) g t cs:=fun h=>h.alloc _
 have yu:(W2.alloc (.cells #[.string ⟨#[120]⟩,.string ⟨#[121]⟩,.string ⟨#[122]⟩] 9)).heap.size=w.heap.size+4:=by simp [tq]
 generalize dH:W2.alloc (.cells #[.string ⟨#[120]⟩,.string ⟨#[121]⟩,.string ⟨#[122]⟩] 9)=W3 at *;have cQ:=kp (HA cQ.o);have bL:=kp (HA bL.o);have aV:=kp (HA aV.o);clear HA;have hb:=hb.alloc (by rw [yu];omega) (.cells #[.int .i64 0,.int .i64 0,.int .i64 1] 3);have fN:=kp (show aa (W3.alloc (.cells #[.int .i64 0,.int .i64 0,.int .i64 1] 3)) (w.heap.size+4) 3 #[.int .i64 0,.int .i64 0,.int .i64 1] from aa.lay yu);have HA:∀ {g:Nat} {t:TypeId} {cs:AV},aa W3 g t cs->aa (W3.alloc (.cells #[.int .i64 0,.int .i64 0,.int .i64 1] 3)) g t cs:=fun h=>h.alloc _
 have zW:(W3.alloc (.cells #[.int .i64 0,.int .i64 0,.int .i64 1] 3)).heap.size=w.heap.size+5:=by simp [yu]
 generalize qB:W3.alloc (.cells #[.int .i64 0,.int .i64 0,.int .i64 1] 3)=W4 at *;have cQ:=kp (HA cQ.o);have bL:=kp (HA bL.o);have aV:=kp (HA aV.o);have bM:=kp (HA bM.o);clear HA;have hb:=hb.alloc (by rw [zW];omega) (.cells #[.string ⟨#[112]⟩,.string ⟨#[113]⟩] 9);have eg:=kp (show aa (W4.alloc (.cells #[.string ⟨#[112]⟩,.string ⟨#[113]⟩] 9)) (w.heap.size+5) 9 #[.string ⟨#[112]⟩,.string ⟨#[113]⟩] from aa.lay zW);have HA:∀ {g:Nat} {t:TypeId} {cs:AV},aa W4 g t cs->aa (W4.alloc (.cells #[.string ⟨#[112]⟩,.string ⟨#[113]⟩] 9)) g t cs:=fun h=>h.alloc _
 have C2:(W4.alloc (.cells #[.string ⟨#[112]⟩,.string ⟨#[113]⟩] 9)).heap.size=w.heap.size+6:=by simp [zW]
 generalize yo:W4.alloc (.cells #[.string ⟨#[112]⟩,.string ⟨#[113]⟩] 9)=W5 at *;have cQ:=kp (HA cQ.o);have bL:=kp (HA bL.o);have aV:=kp (HA aV.o);have bM:=kp (HA bM.o);have fN:=kp (HA fN.o);clear HA;have hb:=hb.alloc (by rw [C2];omega) (.cells #[.string ⟨#[108,111,119]⟩,.slice (some ⟨w.heap.size+3,0,none⟩) 3 3,.slice (some ⟨w.heap.size+4,0,none⟩) 3 3,.string ⟨#[116,111,112]⟩,.slice (some ⟨w.heap.size+5,0,none⟩) 2 2,.slice none 0 0] 130);have gG:=kp (show aa (W5.alloc (.cells #[.string ⟨#[108,111,119]⟩,.slice (some ⟨w.heap.size+3,0,none⟩) 3 3,.slice (some ⟨w.heap.size+4,0,none⟩) 3 3,.string ⟨#[116,111,112]⟩,.slice (some ⟨w.heap.size+5,0,none⟩) 2 2,.slice none 0 0] 130)) (w.heap.size+6) 130 #[.string ⟨#[108,111,119]⟩,.slice (some ⟨w.heap.size+3,0,none⟩) 3 3,.slice (some ⟨w.heap.size+4,0,none⟩) 3 3,.string ⟨#[116,111,112]⟩,.slice (some ⟨w.heap.size+5,0,none⟩) 2 2,.slice none 0 0] from aa.lay C2);have HA:∀ {g:Nat} {t:TypeId} {cs:AV},aa W5 g t cs->aa (W5.alloc (.cells #[.string ⟨#[108,111,119]⟩,.slice (some ⟨w.heap.size+3,0,none⟩) 3 3,.slice (some ⟨w.heap.size+4,0,none⟩) 3 3,.string ⟨#[116,111,112]⟩,.slice (some ⟨w.heap.size+5,0,none⟩) 2 2,.slice none 0 0] 130)) g t cs:=fun h=>h.alloc _
 have zR:(W5.alloc (.cells #[.string ⟨#[108,111,119]⟩,.slice (some ⟨w.heap.size+3,0,none⟩) 3 3,.slice (some ⟨w.heap.size+4,0,none⟩) 3 3,.string ⟨#[116,111,112]⟩,.slice (some ⟨w.heap.size+5,0,none⟩) 2 2,.slice none 0 0] 130)).heap.size=w.heap.size+7:=by simp [C2]
 generalize lL:W5.alloc (.cells #[.string ⟨#[108,111,119]⟩,.slice (some ⟨w.heap.size+3,0,none⟩) 3 3,.slice (some ⟨w.heap.size+4,0,none⟩) 3 3,.string ⟨#[116,111,112]⟩,.slice (some ⟨w.heap.size+5,0,none⟩) 2 2,.slice none 0 0] 130)=W6 at *;have cQ:=kp (HA cQ.o);have bL:=kp (HA bL.o);have aV:=kp (HA aV.o);have bM:=kp (HA bM.o);have fN:=kp (HA fN.o);have eg:=kp (HA eg.o);clear HA;have hb:=hb.alloc (by rw [zR];omega) (.cells #[.string ⟨#[100]⟩,.slice (some ⟨w.heap.size+2,0,none⟩) 1 1,.string ⟨#[101]⟩,.slice (some ⟨w.heap.size+6,0,none⟩) 2 2] 128);have gi:=kp (show aa (W6.alloc (.cells #[.string ⟨#[100]⟩,.slice (some ⟨w.heap.size+2,0,none⟩) 1 1,.string ⟨#[101]⟩,.slice (some ⟨w.heap.size+6,0,none⟩) 2 2] 128)) (w.heap.size+7) 128 #[.string ⟨#[100]⟩,.slice (some ⟨w.heap.size+2,0,none⟩) 1 1,.string ⟨#[101]⟩,.slice (some ⟨w.heap.size+6,0,none⟩) 2 2] from aa.lay zR);have HA:∀ {g:Nat} {t:TypeId} {cs:AV},aa W6 g t cs->aa (W6.alloc (.cells #[.string ⟨#[100]⟩,.slice (some ⟨w.heap.size+2,0,none⟩) 1 1,.string ⟨#[101]⟩,.slice (some ⟨w.heap.size+6,0,none⟩) 2 2] 128)) g t cs:=fun h=>h.alloc _
 have nN:(W6.alloc (.cells #[.string ⟨#[100]⟩,.slice (some ⟨w.heap.size+2,0,none⟩) 1 1,.string ⟨#[101]⟩,.slice (some ⟨w.heap.size+6,0,none⟩) 2 2] 128)).heap.size=w.heap.size+8:=by simp [zR]
 generalize C1:W6.alloc (.cells #[.string ⟨#[100]⟩,.slice (some ⟨w.heap.size+2,0,none⟩) 1 1,.string ⟨#[101]⟩,.slice (some ⟨w.heap.size+6,0,none⟩) 2 2] 128)=W7 at *;have cQ:=kp (HA cQ.o);have bL:=kp (HA bL.o);have aV:=kp (HA aV.o);have bM:=kp (HA bM.o);have fN:=kp (HA fN.o);have eg:=kp (HA eg.o);have gG:=kp (HA gG.o);clear HA;have hb:=hb.alloc (by rw [nN];omega) (.cells #[.string ⟨#[109]⟩] 9);have fk:=kp (show aa (W7.alloc (.cells #[.string ⟨#[109]⟩] 9)) (w.heap.size+8) 9 #[.string ⟨#[109]⟩] from aa.lay nN);have HA:∀ {g:Nat} {t:TypeId} {cs:AV},aa W7 g t cs->aa (W7.alloc (.cells #[.string ⟨#[109]⟩] 9)) g t cs:=fun h=>h.alloc _
 have E3:(W7.alloc (.cells #[.string ⟨#[109]⟩] 9)).heap.size=w.heap.size+9:=by simp [nN]
 generalize nO:W7.alloc (.cells #[.string ⟨#[109]⟩] 9)=W8 at *;have cQ:=kp (HA cQ.o);have bL:=kp (HA bL.o);have aV:=kp (HA aV.o);have bM:=kp (HA bM.o);have fN:=kp (HA fN.o);have eg:=kp (HA eg.o);have gG:=kp (HA gG.o);have gi:=kp (HA gi.o);clear HA;have hb:=hb.alloc (by rw [E3];omega) (.cells #[.slice (some ⟨w.heap.size+7,0,none⟩) 2 2,.slice (some ⟨w.heap.size+8,0,none⟩) 1 1] 25);have iN:=kp (show aa (W8.alloc (.cells #[.slice (some ⟨w.heap.size+7,0,none⟩) 2 2,.slice (some ⟨w.heap.size+8,0,none⟩) 1 1] 25)) (w.heap.size+9) 25 #[.slice (some ⟨w.heap.size+7,0,none⟩) 2 2,.slice (some ⟨w.heap.size+8,0,none⟩) 1 1] from aa.lay E3);have HA:∀ {g:Nat} {t:TypeId} {cs:AV},aa W8 g t cs->aa (W8.alloc (.cells #[.slice (some ⟨w.heap.size+7,0,none⟩) 2 2,.slice (some ⟨w.heap.size+8,0,none⟩) 1 1] 25)) g t cs:=fun h=>h.alloc _
 have C3:(W8.alloc (.cells #[.slice (some ⟨w.heap.size+7,0,none⟩) 2 2,.slice (some ⟨w.heap.size+8,0,none⟩) 1 1] 25)).heap.size=w.heap.size+10:=by simp [E3]
 generalize yv:W8.alloc (.cells #[.slice (some ⟨w.heap.size+7,0,none⟩) 2 2,.slice (some ⟨w.heap.size+8,0,none⟩) 1 1] 25)=W9 at *;have cQ:=kp (HA cQ.o);have bL:=kp (HA bL.o);have aV:=kp (HA aV.o);have bM:=kp (HA bM.o);have fN:=kp (HA fN.o);have eg:=kp (HA eg.o);have gG:=kp (HA gG.o);have gi:=kp (HA gi.o);have fk:=kp (HA fk.o);clear HA;obtain ⟨s0,s1,_,_⟩:=iN.o.two;have hb:=hb.alloc (by rw [C3];omega) (.cells #[.string ⟨#[97]⟩,.string ⟨#[120]⟩] 9);have mE:=kp (show aa (W9.alloc (.cells #[.string ⟨#[97]⟩,.string ⟨#[120]⟩] 9)) (w.heap.size+10) 9 #[.string ⟨#[97]⟩,.string ⟨#[120]⟩] from aa.lay C3);have HA:∀ {g:Nat} {t:TypeId} {cs:AV},aa W9 g t cs->aa (W9.alloc (.cells #[.string ⟨#[97]⟩,.string ⟨#[120]⟩] 9)) g t cs:=fun h=>h.alloc _
 have KL:(W9.alloc (.cells #[.string ⟨#[97]⟩,.string ⟨#[120]⟩] 9)).heap.size=w.heap.size+11:=by simp [C3]
 generalize Ut:W9.alloc (.cells #[.string ⟨#[97]⟩,.string ⟨#[120]⟩] 9)=oG at *;have cQ:=kp (HA cQ.o);have bL:=kp (HA bL.o);have aV:=kp (HA aV.o);have bM:=kp (HA bM.o);have fN:=kp (HA fN.o);have eg:=kp (HA eg.o);have gG:=kp (HA gG.o);have gi:=kp (HA gi.o);have fk:=kp (HA fk.o);have iN:=kp (HA iN.o);clear HA;have hb:=hb.alloc (by rw [KL];omega) (.cells #[.int .i64 3] 2);have rm:=kp (show aa (oG.alloc (.cells #[.int .i64 3] 2)) (w.heap.size+11) 2 #[.int .i64 3] from aa.lay KL);have HA:∀ {g:Nat} {t:TypeId} {cs:AV},aa oG g t cs->aa (oG.alloc (.cells #[.int .i64 3] 2)) g t cs:=fun h=>h.alloc _
 have E4:(oG.alloc (.cells #[.int .i64 3] 2)).heap.size=w.heap.size+12:=by simp [KL]
 generalize adN:oG.alloc (.cells #[.int .i64 3] 2)=Ei at *;have cQ:=kp (HA cQ.o);have bL:=kp (HA bL.o);have aV:=kp (HA aV.o);have bM:=kp (HA bM.o);have fN:=kp (HA fN.o);have eg:=kp (HA eg.o);have gG:=kp (HA gG.o);have gi:=kp (HA gi.o);have fk:=kp (HA fk.o);have iN:=kp (HA iN.o);have mE:=kp (HA mE.o);clear HA;have hb:=hb.alloc (by rw [E4];omega) (.cells #[.string ⟨#[98]⟩,.string ⟨#[121]⟩] 9);have uE:=kp (show aa (Ei.alloc (.cells #[.string ⟨#[98]⟩,.string ⟨#[121]⟩] 9)) (w.heap.size+12) 9 #[.string ⟨#[98]⟩,.string ⟨#[121]⟩] from aa.lay E4);have HA:∀ {g:Nat} {t:TypeId} {cs:AV},aa Ei g t cs->aa (Ei.alloc (.cells #[.string ⟨#[98]⟩,.string ⟨#[121]⟩] 9)) g t cs:=fun h=>h.alloc _
 have UY:(Ei.alloc (.cells #[.string ⟨#[98]⟩,.string ⟨#[121]⟩] 9)).heap.size=w.heap.size+13:=by simp [E4]
 generalize KX:Ei.alloc (.cells #[.string ⟨#[98]⟩,.string ⟨#[121]⟩] 9)=tx at *;have cQ:=kp (HA cQ.o);have bL:=kp (HA bL.o);have aV:=kp (HA aV.o);have bM:=kp (HA bM.o);have fN:=kp (HA fN.o);have eg:=kp (HA eg.o);have gG:=kp (HA gG.o);have gi:=kp (HA gi.o);have fk:=kp (HA fk.o);have iN:=kp (HA iN.o);have mE:=kp (HA mE.o);have rm:=kp (HA rm.o);clear HA;have hb:=hb.alloc (by rw [UY];omega) (.cells #[.int .i64 (-4)] 2);have Ch:=kp (show aa (tx.alloc (.cells #[.int .i64 (-4)] 2)) (w.heap.size+13) 2 #[.int .i64 (-4)] from aa.lay UY);have HA:∀ {g:Nat} {t:TypeId} {cs:AV},aa tx g t cs->aa (tx.alloc (.cells #[.int .i64 (-4)] 2)) g t cs:=fun h=>h.alloc _
 have UZ:(tx.alloc (.cells #[.int .i64 (-4)] 2)).heap.size=w.heap.size+14:=by simp [UY]
 generalize aeZ:tx.alloc (.cells #[.int .i64 (-4)] 2)=KY at *;have cQ:=kp (HA cQ.o);have bL:=kp (HA bL.o);have aV:=kp (HA aV.o);have bM:=kp (HA bM.o);have fN:=kp (HA fN.o);have eg:=kp (HA eg.o);have gG:=kp (HA gG.o);have gi:=kp (HA gi.o);have fk:=kp (HA fk.o);have iN:=kp (HA iN.o);have mE:=kp (HA mE.o);have rm:=kp (HA rm.o);have uE:=kp (HA uE.o);clear HA;have hb:=hb.alloc (by rw [UZ];omega) (.cells #[.string ⟨#[97]⟩,.string ⟨#[122]⟩] 9);have H5:=kp (show aa (KY.alloc (.cells #[.string ⟨#[97]⟩,.string ⟨#[122]⟩] 9)) (w.heap.size+14) 9 #[.string ⟨#[97]⟩,.string ⟨#[122]⟩] from aa.lay UZ);have HA:∀ {g:Nat} {t:TypeId} {cs:AV},aa KY g t cs->aa (KY.alloc (.cells #[.string ⟨#[97]⟩,.string ⟨#[122]⟩] 9)) g t cs:=fun h=>h.alloc _
 have U':(KY.alloc (.cells #[.string ⟨#[97]⟩,.string ⟨#[122]⟩] 9)).heap.size=w.heap.size+15:=by simp [UZ]
 generalize ae':KY.alloc (.cells #[.string ⟨#[97]⟩,.string ⟨#[122]⟩] 9)=KZ at *;have cQ:=kp (HA cQ.o);have bL:=kp (HA bL.o);have aV:=kp (HA aV.o);have bM:=kp (HA bM.o);have fN:=kp (HA fN.o);have eg:=kp (HA eg.o);have gG:=kp (HA gG.o);have gi:=kp (HA gi.o);have fk:=kp (HA fk.o);have iN:=kp (HA iN.o);have mE:=kp (HA mE.o);have rm:=kp (HA rm.o);have uE:=kp (HA uE.o);have Ch:=kp (HA Ch.o);clear HA;have hb:=hb.alloc (by rw [U'];omega) (.cells #[.int .i64 5] 2);have ON:=kp (show aa (KZ.alloc (.cells #[.int .i64 5] 2)) (w.heap.size+15) 2 #[.int .i64 5] from aa.lay U');have HA:∀ {g:Nat} {t:TypeId} {cs:AV},aa KZ g t cs->aa (KZ.alloc (.cells #[.int .i64 5] 2)) g t cs:=fun h=>h.alloc _
 have V0:(KZ.alloc (.cells #[.int .i64 5] 2)).heap.size=w.heap.size+16:=by simp [U']
 generalize af0:KZ.alloc (.cells #[.int .i64 5] 2)=L0 at *;have cQ:=kp (HA cQ.o);have bL:=kp (HA bL.o);have aV:=kp (HA aV.o);have bM:=kp (HA bM.o);have fN:=kp (HA fN.o);have eg:=kp (HA eg.o);have gG:=kp (HA gG.o);have gi:=kp (HA gi.o);have fk:=kp (HA fk.o);have iN:=kp (HA iN.o);have mE:=kp (HA mE.o);have rm:=kp (HA rm.o);have uE:=kp (HA uE.o);have Ch:=kp (HA Ch.o);have H5:=kp (HA H5.o);clear HA;have hb:=hb.alloc (by rw [V0];omega) (.cells #[.slice (some ⟨w.heap.size+10,0,none⟩) 2 2,.slice (some ⟨w.heap.size+11,0,none⟩) 1 1,.slice (some ⟨w.heap.size+12,0,none⟩) 2 2,.slice (some ⟨w.heap.size+13,0,none⟩) 1 1,.slice (some ⟨w.heap.size+14,0,none⟩) 2 2,.slice (some ⟨w.heap.size+15,0,none⟩) 1 1] 60);have a3E:=kp (show aa (L0.alloc (.cells #[.slice (some ⟨w.heap.size+10,0,none⟩) 2 2,.slice (some ⟨w.heap.size+11,0,none⟩) 1 1,.slice (some ⟨w.heap.size+12,0,none⟩) 2 2,.slice (some ⟨w.heap.size+13,0,none⟩) 1 1,.slice (some ⟨w.heap.size+14,0,none⟩) 2 2,.slice (some ⟨w.heap.size+15,0,none⟩) 1 1] 60)) (w.heap.size+16) 60 #[.slice (some ⟨w.heap.size+10,0,none⟩) 2 2,.slice (some ⟨w.heap.size+11,0,none⟩) 1 1,.slice (some ⟨w.heap.size+12,0,none⟩) 2 2,.slice (some ⟨w.heap.size+13,0,none⟩) 1 1,.slice (some ⟨w.heap.size+14,0,none⟩) 2 2,.slice (some ⟨w.heap.size+15,0,none⟩) 1 1] from aa.lay V0);have HA:∀ {g:Nat} {t:TypeId} {cs:AV},aa L0 g t cs->aa (L0.alloc (.cells #[.slice (some ⟨w.heap.size+10,0,none⟩) 2 2,.slice (some ⟨w.heap.size+11,0,none⟩) 1 1,.slice (some ⟨w.heap.size+12,0,none⟩) 2 2,.slice (some ⟨w.heap.size+13,0,none⟩) 1 1,.slice (some ⟨w.heap.size+14,0,none⟩) 2 2,.slice (some ⟨w.heap.size+15,0,none⟩) 1 1] 60)) g t cs:=fun h=>h.alloc _
 have af1:(L0.alloc (.cells #[.slice (some ⟨w.heap.size+10,0,none⟩) 2 2,.slice (some ⟨w.heap.size+11,0,none⟩) 1 1,.slice (some ⟨w.heap.size+12,0,none⟩) 2 2,.slice (some ⟨w.heap.size+13,0,none⟩) 1 1,.slice (some ⟨w.heap.size+14,0,none⟩) 2 2,.slice (some ⟨w.heap.size+15,0,none⟩) 1 1] 60)).heap.size=w.heap.size+17:=by simp [V0]
 generalize af2:L0.alloc (.cells #[.slice (some ⟨w.heap.size+10,0,none⟩) 2 2,.slice (some ⟨w.heap.size+11,0,none⟩) 1 1,.slice (some ⟨w.heap.size+12,0,none⟩) 2 2,.slice (some ⟨w.heap.size+13,0,none⟩) 1 1,.slice (some ⟨w.heap.size+14,0,none⟩) 2 2,.slice (some ⟨w.heap.size+15,0,none⟩) 1 1] 60)=pJ at *;have cQ:=kp (HA cQ.o);have bL:=kp (HA bL.o);have aV:=kp (HA aV.o);have bM:=kp (HA bM.o);have fN:=kp (HA fN.o);have eg:=kp (HA eg.o);have gG:=kp (HA gG.o);have gi:=kp (HA gi.o);have fk:=kp (HA fk.o);have iN:=kp (HA iN.o);have mE:=kp (HA mE.o);have rm:=kp (HA rm.o);have uE:=kp (HA uE.o);have Ch:=kp (HA Ch.o);have H5:=kp (HA H5.o);have ON:=kp (HA ON.o);clear HA;clear oY;have Hb:=kp hb;clear hb;have HR:=kp (show aa (aK pJ w.heap.size 0 [.slice (some ⟨w.heap.size+7,0,none⟩) 2 2,.slice (some ⟨w.heap.size+8,0,none⟩) 1 1]) w.heap.size 25 #[.slice (some ⟨w.heap.size+7,0,none⟩) 2 2,.slice (some ⟨w.heap.size+8,0,none⟩) 1 1] from eO cQ.o [.slice (some ⟨w.heap.size+7,0,none⟩) 2 2,.slice (some ⟨w.heap.size+8,0,none⟩) 1 1] rfl);have dW:=kp (eU (ah w.heap.size) [.slice (some ⟨w.heap.size+7,0,none⟩) 2 2,.slice (some ⟨w.heap.size+8,0,none⟩) 1 1] pJ 0 Hb.o);have Eh:=kp (qJ (show aa (aK pJ w.heap.size 0 [.slice (some ⟨w.heap.size+7,0,none⟩) 2 2,.slice (some ⟨w.heap.size+8,0,none⟩) 1 1]) (w.heap.size+1) 9 #[.string ⟨#[97]⟩,.string ⟨#[98]⟩] from (gu (by omega) _ _ _).trans bL.o));have HF2:=kp (qJ (show aa (aK pJ w.heap.size 0 [.slice (some ⟨w.heap.size+7,0,none⟩) 2 2,.slice (some ⟨w.heap.size+8,0,none⟩) 1 1]) (w.heap.size+2) 130 #[.string ⟨#[116]⟩,.slice (some ⟨w.heap.size+1,0,none⟩) 2 2,.slice none 0 0] from (gu (by omega) _ _ _).trans aV.o));have KG:=kp (qJ (show aa (aK pJ w.heap.size 0 [.slice (some ⟨w.heap.size+7,0,none⟩) 2 2,.slice (some ⟨w.heap.size+8,0,none⟩) 1 1]) (w.heap.size+3) 9 #[.string ⟨#[120]⟩,.string ⟨#[121]⟩,.string ⟨#[122]⟩] from (gu (by omega) _ _ _).trans bM.o));have KK:=kp (qJ (show aa (aK pJ w.heap.size 0 [.slice (some ⟨w.heap.size+7,0,none⟩) 2 2,.slice (some ⟨w.heap.size+8,0,none⟩) 1 1]) (w.heap.size+4) 3 #[.int .i64 0,.int .i64 0,.int .i64 1] from (gu (by omega) _ _ _).trans fN.o));have Gn:=kp (qJ (show aa (aK pJ w.heap.size 0 [.slice (some ⟨w.heap.size+7,0,none⟩) 2 2,.slice (some ⟨w.heap.size+8,0,none⟩) 1 1]) (w.heap.size+5) 9 #[.string ⟨#[112]⟩,.string ⟨#[113]⟩] from (gu (by omega) _ _ _).trans eg.o));have Od:=kp (qJ (show aa (aK pJ w.heap.size 0 [.slice (some ⟨w.heap.size+7,0,none⟩) 2 2,.slice (some ⟨w.heap.size+8,0,none⟩) 1 1]) (w.heap.size+6) 130 #[.string ⟨#[108,111,119]⟩,.slice (some ⟨w.heap.size+3,0,none⟩) 3 3,.slice (some ⟨w.heap.size+4,0,none⟩) 3 3,.string ⟨#[116,111,112]⟩,.slice (some ⟨w.heap.size+5,0,none⟩) 2 2,.slice none 0 0] from (gu (by omega) _ _ _).trans gG.o));have HF7:=kp (qJ (show aa (aK pJ w.heap.size 0 [.slice (some ⟨w.heap.size+7,0,none⟩) 2 2,.slice (some ⟨w.heap.size+8,0,none⟩) 1 1]) (w.heap.size+7) 128 #[.string ⟨#[100]⟩,.slice (some ⟨w.heap.size+2,0,none⟩) 1 1,.string ⟨#[101]⟩,.slice (some ⟨w.heap.size+6,0,none⟩) 2 2] from (gu (by omega) _ _ _).trans gi.o));have HF8:=kp (qJ (show aa (aK pJ w.heap.size 0 [.slice (some ⟨w.heap.size+7,0,none⟩) 2 2,.slice (some ⟨w.heap.size+8,0,none⟩) 1 1]) (w.heap.size+8) 9 #[.string ⟨#[109]⟩] from (gu (by omega) _ _ _).trans fk.o));have a3F:=kp (qJ (show aa (aK pJ w.heap.size 0 [.slice (some ⟨w.heap.size+7,0,none⟩) 2 2,.slice (some ⟨w.heap.size+8,0,none⟩) 1 1]) (w.heap.size+10) 9 #[.string ⟨#[97]⟩,.string ⟨#[120]⟩] from (gu (by omega) _ _ _).trans mE.o));have a3G:=kp (qJ (show aa (aK pJ w.heap.size 0 [.slice (some ⟨w.heap.size+7,0,none⟩) 2 2,.slice (some ⟨w.heap.size+8,0,none⟩) 1 1]) (w.heap.size+11) 2 #[.int .i64 3] from (gu (by omega) _ _ _).trans rm.o));have a3H:=kp (qJ (show aa (aK pJ w.heap.size 0 [.slice (some ⟨w.heap.size+7,0,none⟩) 2 2,.slice (some ⟨w.heap.size+8,0,none⟩) 1 1]) (w.heap.size+12) 9 #[.string ⟨#[98]⟩,.string ⟨#[121]⟩] from (gu (by omega) _ _ _).trans uE.o));have a3I:=kp (qJ (show aa (aK pJ w.heap.size 0 [.slice (some ⟨w.heap.size+7,0,none⟩) 2 2,.slice (some ⟨w.heap.size+8,0,none⟩) 1 1]) (w.heap.size+13) 2 #[.int .i64 (-4)] from (gu (by omega) _ _ _).trans Ch.o));have a3J:=kp (qJ (show aa (aK pJ w.heap.size 0 [.slice (some ⟨w.heap.size+7,0,none⟩) 2 2,.slice (some ⟨w.heap.size+8,0,none⟩) 1 1]) (w.heap.size+14) 9 #[.string ⟨#[97]⟩,.string ⟨#[122]⟩] from (gu (by omega) _ _ _).trans H5.o));have a3K:=kp (qJ (show aa (aK pJ w.heap.size 0 [.slice (some ⟨w.heap.size+7,0,none⟩) 2 2,.slice (some ⟨w.heap.size+8,0,none⟩) 1 1]) (w.heap.size+15) 2 #[.int .i64 5] from (gu (by omega) _ _ _).trans ON.o));have a3L:=kp (qJ (show aa (aK pJ w.heap.size 0 [.slice (some ⟨w.heap.size+7,0,none⟩) 2 2,.slice (some ⟨w.heap.size+8,0,none⟩) 1 1]) (w.heap.size+16) 60 #[.slice (some ⟨w.heap.size+10,0,none⟩) 2 2,.slice (some ⟨w.heap.size+11,0,none⟩) 1 1,.slice (some ⟨w.heap.size+12,0,none⟩) 2 2,.slice (some ⟨w.heap.size+13,0,none⟩) 1 1,.slice (some ⟨w.heap.size+14,0,none⟩) 2 2,.slice (some ⟨w.heap.size+15,0,none⟩) 1 1] from (gu (by omega) _ _ _).trans a3E.o));obtain ⟨u0,u1,g0,g1⟩:=cQ.o.two;generalize hWr:aK pJ w.heap.size 0 _=Wr at *;simp only [aK,Nat.zero_add,Nat.reduceAdd] at hWr
 have HS:=kp (show gW Wr Wr.heap.size (jL w.heap.size) from by
  refine ⟨(show (2:Nat)<=maxLen by decide),HF7.o,?_,(show (1:Nat)<=maxLen by decide),HF8.o,Xh _⟩;intro d hd;rcases mem_cons.1 hd with rfl | hd
  .refine ⟨(show (1:Nat)<=maxLen by decide),(show (1:Nat)<=maxLen by decide),HF2.o,fun t ht => ?_⟩;rcases mem_cons.1 ht with rfl | ht
   .exact ⟨(show (1:Nat)<=maxLen by decide),Eh.o,.inl rfl,(show (2:Nat)<=maxLen by decide),(show (0:Nat)<=maxLen by decide),E' _ _⟩
   .cases ht
  .rcases mem_cons.1 hd with rfl | hd
   .refine ⟨(show (1:Nat)<=maxLen by decide),(show (2:Nat)<=maxLen by decide),Od.o,fun t ht => ?_⟩;rcases mem_cons.1 ht with rfl | ht
    .exact ⟨(show (3:Nat)<=maxLen by decide),KG.o,KK.o,(show (3:Nat)<=maxLen by decide),(show (3:Nat)<=maxLen by decide),a8R _ _ _⟩
    .rcases mem_cons.1 ht with rfl | ht
     .exact ⟨(show (3:Nat)<=maxLen by decide),Gn.o,.inl rfl,(show (2:Nat)<=maxLen by decide),(show (0:Nat)<=maxLen by decide),E' _ _⟩
     .cases ht
   .cases hd)
 have H6:=kp (show j6 Wr Wr.heap.size (some ⟨w.heap.size+16,0,none⟩) (yU w.heap.size) from by
  refine ⟨(show (3:Nat)<=maxLen by decide),a3L.o,?_⟩;intro r hr;rcases mem_cons.1 hr with rfl | hr
  .exact ⟨(show (2:Nat)<=maxLen by decide),a3F.o,E' _ _,(show (1:Nat)<=maxLen by decide),a3G.o,show ∀n∈([3]:List Int),(Lit.int .i64 n).wf=true from by decide +kernel⟩
  .rcases mem_cons.1 hr with rfl | hr
   .exact ⟨(show (2:Nat)<=maxLen by decide),a3H.o,E' _ _,(show (1:Nat)<=maxLen by decide),a3I.o,show ∀n∈([-4]:List Int),(Lit.int .i64 n).wf=true from by decide +kernel⟩
   .rcases mem_cons.1 hr with rfl | hr
    .exact ⟨(show (2:Nat)<=maxLen by decide),a3J.o,E' _ _,(show (1:Nat)<=maxLen by decide),a3K.o,show ∀n∈([5]:List Int),(Lit.int .i64 n).wf=true from by decide +kernel⟩
    .cases hr)
 have bN:=kp (HQ.o Wr HS.o H6.o dW.o);obtain ⟨t0,t1,_,_⟩:=HR.o.two;clear cQ bL aV bM fN eg gG gi fk iN mE rm uE Ch H5 ON a3E Eh HF2 KG KK Gn Od HF7 HF8 a3F a3G a3H a3I a3J a3K a3L HS H6 HQ Hb dW HR;go_enter Tryz.func22,Tryz.ntmps22;go_wp2_with fail;refine bodyPost_ret (v := .tuple #[.agg #[.slice (some ⟨w.heap.size+7,0,none⟩) 2 2,.slice (some ⟨w.heap.size+8,0,none⟩) 1 1],.slice (some ⟨w.heap.size+16,0,none⟩) 3 3]) ?_ rfl bN.o;simp [results,Tryz.results22,go_sem,t0,t1]
theorem Q' {j k:Nat} {a b:Ag} (ha:mK j a) (hb:mK k b) (hj:j+k<=5000):EU a b/\∃r,bY a b=some r/\mK (j+k) r:=by
 have ea:((j+k:Nat):Int)*1000000000=(j:Int)*1000000000+(k:Int)*1000000000:=by rw [Int.natCast_add,Int.add_mul]
 have eb:((j+k:Nat):Int)*1000000000000=(j:Int)*1000000000000+(k:Int)*1000000000000:=by rw [Int.natCast_add,Int.add_mul]
 have jc:=MH hb (Nat.le_add_left k j);have Dj:=MH ha (Nat.le_add_right j k);obtain ⟨h0,h1,⟨h2,h3⟩,⟨h4,h5⟩,⟨h6,h7⟩,h8⟩:=ha;obtain ⟨k0,k1,⟨k2,k3⟩,⟨k4,k5⟩,⟨k6,k7⟩,k8⟩:=hb;have e1:((j+k:Nat):Int)*1000000000<=5000*1000000000:=Int.mul_le_mul_of_nonneg_right (by omega) (by decide);have e2:((j+k:Nat):Int)*1000000000000<=5000*1000000000000:=Int.mul_le_mul_of_nonneg_right (by omega) (by decide);rw [ea] at e1;rw [eb] at e2;have hf:EU a b:=by
  refine ⟨⟨?_,?_⟩,⟨?_,?_⟩,⟨?_,?_⟩,⟨?_,?_⟩⟩<;>omega
 refine ⟨hf,?_⟩;unfold bY;rw [if_pos hf];split
 .exact ⟨b,rfl,jc⟩
 .split
  .exact ⟨a,rfl,Dj⟩
  .refine ⟨_,rfl,⟨?_,?_,⟨?_,?_⟩,⟨?_,?_⟩,⟨?_,?_⟩,Mu h8 k8 (show bY a b=some (tV a b) by unfold bY;rw [if_neg (by assumption),if_neg (by assumption),if_pos hf])⟩⟩
   .show 0<=a.c+b.c;omega
   .show a.c+b.c<=_;rw [ea];omega
   .show _<=a.s0+b.s0;rw [eb];omega
   .show a.s0+b.s0<=_;rw [eb];omega
   .show _<=a.s1+b.s1;rw [eb];omega
   .show a.s1+b.s1<=_;rw [eb];omega
   .show _<=a.s2+b.s2;rw [eb];omega
   .show a.s2+b.s2<=_;rw [eb];omega
theorem a02 {m:Nat} {a b r:Ag} (ha:lP m a\/a=aO) (hb:lP m b) (h:bY a b=some r):lP m r:=by
 unfold bY at h;split at h
 .injection h with h;subst h;exact hb
 .rename_i h0;split at h
  .rename_i h1;have:=hb.c;omega
  .split at h
   .injection h with h
    subst h;rcases ha with ha | ha
    .have hc:2<=(tV a b).c:=by show 2<=a.c+b.c;have:=ha.c;have:=hb.c;omega
     refine ⟨by omega,fun k hk hm => ?_,fun k hk hm h=>by omega,fun k hk hm => ?_⟩
     .have h1:=ha.le k hk hm;have h2:=hb.le k hk hm
      match k,hk with
      | 0,_=>show min a.n0 b.n0<=max a.x0 b.x0;simp only [pn,px] at h1 h2;omega
      | 1,_=>show min a.n1 b.n1<=max a.x1 b.x1;simp only [pn,px] at h1 h2;omega
      | 2,_=>show min a.n2 b.n2<=max a.x2 b.x2;simp only [pn,px] at h1 h2;omega
     .have h1:=ha.none k hk hm;have h2:=hb.none k hk hm
      match k,hk with
      | 0,_=>simp only [pn,px,ps] at h1 h2;exact ⟨show a.s0+b.s0=0 by omega,show min a.n0 b.n0=0 by omega,show max a.x0 b.x0=0 by omega⟩
      | 1,_=>simp only [pn,px,ps] at h1 h2;exact ⟨show a.s1+b.s1=0 by omega,show min a.n1 b.n1=0 by omega,show max a.x1 b.x1=0 by omega⟩
      | 2,_=>simp only [pn,px,ps] at h1 h2;exact ⟨show a.s2+b.s2=0 by omega,show min a.n2 b.n2=0 by omega,show max a.x2 b.x2=0 by omega⟩
    .subst ha;exact absurd rfl h0
   .cases h
theorem Rm {m k:Nat}:∀ (l:List Ag) (o:Ag) (j:Nat),mK j o->(lP m o\/o=aO)->(∀a∈l,mK k a/\lP m a)->j+k*l.length<=5000->∃r,gq o l=some r/\mK (j+k*l.length) r/\(lP m r\/(r=aO/\l=[]))
 | [],o,j,h,ho,_,_=>⟨o,rfl,by simpa using h,ho.elim .inl (fun e => .inr ⟨e,rfl⟩)⟩
 | a::l,o,j,h,ho,hl,hn=>by
  rw [length_cons] at hn ⊢;have e:k*(l.length+1)=k*l.length+k:=Nat.mul_succ k l.length;obtain ⟨_,r,hr,hb⟩:=Q' h (hl a mem_cons_self).1 (by omega);have db:=a02 ho (hl a mem_cons_self).2 hr;obtain ⟨r2,h2,aH,h3⟩:=Rm l r (j+k) hb (.inl db) (fun x hx=>hl x (mem_cons_of_mem _ hx)) (by omega);refine ⟨r2,?_,by rw [show j+k*(l.length+1)=j+k+k*l.length by omega];exact aH,?_⟩
  .unfold gq;rw [hr];exact h2
  .rcases h3 with h3 | ⟨h3,h4⟩
   .exact .inl h3
   .subst h4;injection h2 with h2
    exact .inl (h2▸db)
structure gK (s:aW) (fs:List Fa):Prop where
 len:fs.length<=64
 keys:∀f∈fs,xN s f.keys
 ag:∀f∈fs,mK 64 f.ag/\lP s.aU.length f.ag
 vN:Mb fs
theorem xK (d:cR):(dK d).length=d.aw.length:=by unfold dK;rw [lM]
theorem CX (d:cR) (j:Nat) (h:j<(dK d).length):(dK d)[j]=(d.aw[j]'(by rw [<-xK];exact h)).aQ.length:=by simp [dK]
theorem Zw {d:cR} {j y:Nat} (h:(dK d)[j]? = some y):∃hj:j<d.aw.length,y=(d.aw[j]'hj).aQ.length:=by
 obtain ⟨h1,h2⟩:=bS h;exact ⟨by rw [<-xK];exact h1,by rw [<-h2,CX]⟩
theorem ZU {d:cR} (h:nT d):Xx (dK d):=by
 have hl:=xK d;refine ⟨by rw [hl];exact h.n1,by rw [hl];exact h.n2,fun j hj => ?_,fun j hj => ?_⟩
 .have h1:=h.aw j (by rw [<-hl];exact hj);rw [CX];exact ⟨h1.n1,h1.n2⟩
 .have L2:j+1<d.aw.length:=by rw [<-hl];exact hj
  obtain ⟨e,hu⟩:=QL h L2;rw [CX,CX,<-e];have ht:=(h.aw j (by omega)).tree;have ha:ij d j=((d.aw[j+1]'L2).aQ.length:Nat):=by unfold ij;rw [gE L2]
  have Ci:=Be (range (d.aw[j+1]'L2).aQ.length) ((d.aw[j]'(by omega)).up.map Int.toNat) nodup_range (fun i hi=>by
   refine mem_map.2 ⟨(i:Int),ht.all i (by rw [ha];have:=mem_range.1 hi;omega),by simp⟩)
  rw [lM,length_range] at Ci;exact Ci
theorem MO {d:cR} {k:Nat} {l:LN} (h:(gl d)[k]? = some l):k<d.aw.length/\l=fq d k:=by
 unfold gl at h;rw [getElem?_map] at h;obtain ⟨q,hq,e⟩:=Option.map_eq_some_iff.1 h;obtain ⟨h1,h2⟩:=bS hq;rw [getElem_range] at h2;rw [length_range] at h1;exact ⟨h1,by rw [<-e,<-h2]⟩
theorem X' {d:cR} {k q z:Nat} (h:(fq d k)[q]? = some z):q<(fin d).length/\z=iQ d k q:=by
 unfold fq at h;rw [getElem?_map] at h;obtain ⟨x,hx,e⟩:=Option.map_eq_some_iff.1 h;obtain ⟨h1,h2⟩:=bS hx;rw [getElem_range] at h2;rw [length_range] at h1;exact ⟨h1,by rw [<-e,<-h2]⟩
theorem ML (d:cR) (k:Nat) {q:Nat} (h:q<(fin d).length):(fq d k)[q]? = some (iQ d k q):=by
 unfold fq;rw [getElem?_map,getElem?_range h];rfl
theorem ze {s:aW} (hs:dO s) {a:Nat} {d:cR} (h:s.ak[a]? = some d):nT d:=by
 obtain ⟨h1,h2⟩:=bS h;rw [<-h2];exact hs.ak a h1
theorem Rl {d:cR} (h:nT d):(fin d).length=(d.aw[0]'h.n1).aQ.length:=by rw [Qy h.n1]
theorem II {s:aW} (hs:dO s) {fs:List Fa} (h:gK s fs) {most:Nat} (hm:most<=131072):MU s fs most:=by
 have hX:(s.ak.map dK).length=s.ak.length:=by rw [lM]
 have cM:(aG fs).length=fs.length:=by unfold aG;rw [lM]
 have key:∀xs:List Fa,xs.map Fa.keys=s.ak.map dK->xs.length=s.ak.length/\∀ (i:Nat) (h1:i<xs.length) (h2:i<s.ak.length),xs[i].keys=dK s.ak[i]:=fun xs hx=>by
  have h0:=congrArg length hx;rw [lM,lM] at h0;refine ⟨h0,fun i h1 h2 => ?_⟩;have h3:(xs.map Fa.keys)[i]? = (s.ak.map dK)[i]? := by rw [hx]
  rw [getElem?_map,getElem?_map,gE h1,gE h2] at h3;injection h3
 refine ⟨hs,?_,fun xs hx f hf => ?_,fun xs hx => ?_,h.vN,fun f hf=>(h.ag f hf).1.fit,hm⟩
 .refine ⟨by rw [hX];exact hs.n1,by rw [hX];exact hs.n2,by rw [lM,lM],hs.m1,hs.m2,by rw [cM];have:=h.len;omega,?_,?_,?_,?_,?_,?_⟩
  .intro a ls x h1 h2;rw [getElem?_map] at h1 h2;obtain ⟨d,hd,rfl⟩:=Option.map_eq_some_iff.1 h1;rw [hd] at h2;injection h2 with h2
   subst h2;have ho:=ze hs hd;have e:(gl d).length=d.aw.length:=by unfold gl;rw [lM,length_range]
   rw [e,xK];exact ⟨rfl,ho.n1,ho.n2⟩
  .intro a x h2 y hy;rw [getElem?_map] at h2;obtain ⟨d,hd,rfl⟩:=Option.map_eq_some_iff.1 h2;obtain ⟨j,hj,rfl⟩:=getElem_of_mem hy;exact ((ZU (ze hs hd)).each j hj).2
  .intro a ls x k l y y0 h1 h2 h3 h4 h5;rw [getElem?_map] at h1 h2;obtain ⟨d,hd,rfl⟩:=Option.map_eq_some_iff.1 h1;rw [hd] at h2;injection h2 with h2
   subst h2;have ho:=ze hs hd;obtain ⟨hk,rfl⟩:=MO h3;obtain ⟨jF,rfl⟩:=Zw h4;obtain ⟨pj,rfl⟩:=Zw h5;have oV:=Rl ho;have eZ:=(ho.aw 0 pj).n2;refine ⟨by unfold fq;rw [lM,length_range];omega,fun q hq=>⟨_,ML d k (by omega),Nb ho jF hq⟩⟩
  .intro i p hp;unfold aG at hp;rw [getElem?_map] at hp;obtain ⟨f,hf,rfl⟩:=Option.map_eq_some_iff.1 hp;have hk:=h.keys f (mem_of_getElem? hf);refine ⟨by rw [hX];exact hk.len,fun a q x hq hx => ?_⟩;rw [getElem?_map] at hx;obtain ⟨d,hd,rfl⟩:=Option.map_eq_some_iff.1 hx;obtain ⟨Ej,wY⟩:=bS hd;obtain ⟨sQ,Ni⟩:=bS hq;have ho:=ze hs hd;have h1:=hk.each a Ej sQ (by rw [wY];exact ho.n1);refine ⟨(d.aw[0]'ho.n1).aQ.length,by rw [gE (by rw [xK];exact ho.n1),CX],?_⟩;have adO:f.keys[a]=q:=Ni;rw [<-adO];subst wY;exact h1
  .intro a ls k l l' q q' z h1 h2 h3 h4 h5;rw [getElem?_map] at h1;obtain ⟨d,hd,rfl⟩:=Option.map_eq_some_iff.1 h1;obtain ⟨hk,rfl⟩:=MO h2;obtain ⟨jF,rfl⟩:=MO h3;obtain ⟨hq,e⟩:=X' h4;obtain ⟨wi,e'⟩:=X' h5;rw [ML d (k+1) hq,ML d (k+1) wi];unfold iQ;rw [<-e,<-e']
  .intro part hp;have aX:part.length<=fs.length:=by
    have:=Be part (range (aG fs).length) hp.nd (fun i hi=>mem_range.2 (hp.lt i hi));rw [length_range,cM] at this;exact this
   have h64:=h.len
   obtain ⟨r,h1,h2,h3⟩:=Rm (m:=s.aU.length) (k:=64) (part.map (mS (aG fs))) aO 0 LS (.inr rfl) (fun a ha=>by
    obtain ⟨i,hi,rfl⟩:=mem_map.1 ha;have gP:i<fs.length:=by have:=hp.lt i hi;rw [cM] at this;exact this
    rw [Qg (gE gP)]
    exact h.ag _ (gM gP)) (by rw [lM];omega)
   refine ⟨r,h1,h3.resolve_right (fun ⟨_,e⟩=>hp.ne (map_eq_nil_iff.1 e))⟩
 .obtain ⟨h0,h1⟩:=key xs hx;have hk:=h.keys f hf;refine ⟨by rw [h0];exact hk.len,fun i hi gP => ?_,(h.ag f hf).2⟩;have sW:i<s.ak.length:=by rw [<-h0];exact gP
  have ho:=hs.ak i sW;have e:=h1 i gP sW;refine ⟨by rw [e,xK];exact ho.n1,?_⟩;have h2:=hk.each i sW hi ho.n1;have h3:(xs[i].keys)[0]? = some ((s.ak[i]'sW).aw[0]'ho.n1).aQ.length:=by rw [e,gE (by rw [xK];exact ho.n1),CX]
  rw [(bS h3).2];exact h2
 .obtain ⟨h0,h1⟩:=key xs hx;refine ⟨by rw [h0];exact hs.n1,by rw [h0];exact hs.n2,hs.m1,hs.m2,fun x hx' => ?_⟩;obtain ⟨i,hi,rfl⟩:=getElem_of_mem hx';rw [h1 i hi (by rw [<-h0];exact hi)];exact ZU (hs.ak i (by rw [<-h0];exact hi))
structure GA (m k:Nat) (a:Ag):Prop where
 b:mK k a
 ok:lP m a
theorem GA.c {m k:Nat} {a:Ag} (h:GA m k a):a.c≠0:=by have:=h.ok.c;omega
theorem GA.more {m j k:Nat} {a:Ag} (h:GA m j a) (hk:j<=k):GA m k a:=⟨MH h.b hk,h.ok⟩
theorem join_some {m j k:Nat} {a b:Ag} (ha:mK j a) (Ek:lP m a\/a=aO) (hb:GA m k b) (h:j+k<=5000):∃r,bY a b=some r/\GA m (j+k) r:=by
 obtain ⟨_,r,h1,h2⟩:=Q' ha hb.b h;exact ⟨r,h1,h2,a02 Ek hb.ok h1⟩
theorem EL {m j k:Nat} {a b:Ag} (ha:mK j a) (h0:a.c≠0) (hb:GA m k b) (h:j+k<=5000):bY a b=some (tV a b):=by
 obtain ⟨hf,_⟩:=Q' ha hb.b h;unfold bY;rw [if_neg h0,if_neg hb.c,if_pos hf]
theorem join_comm {m j k:Nat} {a b:Ag} (ha:GA m j a) (hb:GA m k b) (h:j+k<=5000):bY a b=bY b a:=by
 rw [EL ha.b ha.c hb h,EL hb.b hb.c ha (by omega)]
 congr 1
 unfold tV;simp only [Ag.mk.injEq];refine ⟨?_,?_,?_,?_,?_,?_,?_,?_,?_,?_⟩<;>omega
theorem join_assoc {m j k l:Nat} {o a b:Ag} (ho:mK j o) (xj:lP m o\/o=aO) (ha:GA m k a) (hb:GA m l b) (h:j+k+l<=5000):((bY o a).bind fun r=>bY r b)=(bY a b).bind fun r=>bY o r:=by
 obtain ⟨r,hr,lZ⟩:=join_some ha.b (.inl ha.ok) hb (by omega:k+l<=5000);have e2:=EL ha.b ha.c hb (by omega:k+l<=5000);rw [e2];rw [hr] at e2;injection e2 with e2
 by_cases h0:o.c=0
 .have h1:bY o a=some a:=if_pos h0;have h2:bY o (tV a b)=some (tV a b):=if_pos h0;rw [h1];show bY a b=bY o (tV a b);rw [h2,<-e2,hr]
 .have h1:=EL ho h0 ha (by omega:j+k<=5000);obtain ⟨r1,eC,V1⟩:=join_some ho xj ha (by omega:j+k<=5000);rw [h1] at eC;injection eC with eC
  rw [h1];show bY (tV o a) b=bY o (tV a b);rw [<-eC] at V1;rw [e2] at lZ;rw [EL V1.b V1.c hb (by omega),EL ho h0 lZ (by omega)]
  congr 1
  unfold tV;simp only [Ag.mk.injEq];refine ⟨?_,?_,?_,?_,?_,?_,?_,?_,?_,?_⟩<;>omega
theorem a0d:∀ (l1 l2:List Ag) (o:Ag),gq o (l1++l2)=(gq o l1).bind fun r=>gq r l2
 | [],l2,o=>rfl
 | a::l1,l2,o=>by
  show (bY o a).bind (fun j=>gq j (l1++l2))=((bY o a).bind fun j=>gq j l1).bind _;cases bY o a with
  | none=>rfl
  | some j=>exact a0d l1 l2 j
theorem a7z {m j k:Nat} {o a b:Ag} (l:List Ag) (ho:mK j o) (xj:lP m o\/o=aO) (ha:GA m k a) (hb:GA m k b) (h:j+k+k<=5000):gq o (a::b::l)=gq o (b::a::l):=by
 have e:∀x y:Ag,gq o (x::y::l)=((bY o x).bind fun r=>bY r y).bind fun r=>gq r l:=fun x y=>by
  show (bY o x).bind (fun j=>(bY j y).bind fun j=>gq j l)=_;cases bY o x with
  | none=>rfl
  | some r=>rfl
 rw [e,e,join_assoc ho xj ha hb h,join_assoc ho xj hb ha h,join_comm ha hb (by omega)]
theorem Yv {m k:Nat} {l1 l2:List Ag} (hp:l1.Perm l2):∀ (o:Ag) (j:Nat),mK j o->(lP m o\/o=aO)->(∀a∈l1,GA m k a)->j+k*l1.length<=5000->gq o l1=gq o l2:=by
 induction hp with
 | nil=>intro o j _ _ _ _;rfl
 | @cons a l1 l2 hp ih =>
  intro o j ho xj hl hn;rw [length_cons,Nat.mul_succ] at hn;obtain ⟨r,h1,h2⟩:=join_some ho xj (hl a mem_cons_self) (by omega);show (bY o a).bind _=(bY o a).bind _;rw [h1];exact ih r (j+k) h2.b (.inl h2.ok) (fun x hx=>hl x (mem_cons_of_mem _ hx)) (by omega)
 | swap a b l =>
  intro o j ho xj hl hn;rw [length_cons,length_cons,Nat.mul_succ,Nat.mul_succ] at hn;exact a7z l ho xj (hl b mem_cons_self) (hl a (mem_cons_of_mem _ mem_cons_self)) (by omega)
 | @trans l1 l2 l3 h1 h2 OO OP =>
  intro o j ho xj hl hn;rw [OO o j ho xj hl hn];exact OP o j ho xj (fun a ha=>hl a (h1.mem_iff.2 ha)) (by rw [<-h1.length_eq];exact hn)
def jX (K:LN->Bool) (l:List (LN×Ag)):Option Ag:=gq aO ((l.filter fun x=>K x.1).map Prod.snd)
structure M0 (m k n:Nat) (out l:List (LN×Ag)):Prop where
 pR:k+l.length<=n
 Mn:out.length<=k
 CD:∀x∈out,GA m k x.2
 ZP:∀x∈l,GA m 1 x.2
 up:out.Pairwise fun a b=>bP a.1 b.1<0
 srt:l.Pairwise fun a b=>bP a.1 b.1<=0
 ends:∀x∈out,∀y∈l,bP x.1 y.1<=0
theorem a9E {α:Type} {l:List α} {x:α} (h:l.getLast? = some x):l=l.dropLast++[x]:=by
 obtain ⟨ys,rfl⟩:=getLast?_eq_some_iff.1 h;simp
theorem QR (K:LN->Bool) (A B:List (LN×Ag)):jX K (A++B)=(jX K A).bind fun r=>gq r ((B.filter fun x=>K x.1).map Prod.snd):=by
 unfold jX;rw [filter_append,map_append,a0d]
theorem RI {m k:Nat} (K:LN->Bool) (A:List (LN×Ag)) (h:∀x∈A,GA m k x.2) (hn:k*A.length<=5000):∃r,jX K A=some r/\mK (k*A.length) r/\(lP m r\/r=aO):=by
 have iE:(A.filter fun x=>K x.1).length<=A.length:=length_filter_le _ _;have hm:k*(A.filter fun x=>K x.1).length<=k*A.length:=Nat.mul_le_mul_left _ iE
 obtain ⟨r,h1,h2,h3⟩:=Rm (m:=m) (k:=k) ((A.filter fun x=>K x.1).map Prod.snd) aO 0 LS (.inr rfl) (fun a ha=>by
  obtain ⟨x,hx,rfl⟩:=mem_map.1 ha;have:=h x (mem_filter.1 hx).1
  exact ⟨this.b,this.ok⟩) (by rw [lM];omega)
 refine ⟨r,h1,MH h2 (by rw [lM];omega),h3.elim .inl (fun e => .inr e.1)⟩
theorem a6e {m k n:Nat} {out l:List (LN×Ag)} {p:LN×Ag} (hn:n<=64) (h:M0 m k n out (p::l)):∃o,uN out p=some o/\M0 m (k+1) n o l/\(∀K,jX K (o++l)=jX K (out++p::l))/\∀key,(∃x∈o,x.1=key)↔((∃x∈out,x.1=key)\/p.1=key):=by
 have L3:=h.pR;rw [length_cons] at L3;have a3M:=h.Mn;have hp:=h.ZP p mem_cons_self;have hl:=fun x hx=>h.ZP x (mem_cons_of_mem _ hx)
 obtain ⟨gv,iJ⟩:=pairwise_cons.1 h.srt;unfold uN;cases kU:out.getLast? with
 | none =>
  have he:out=[]:=getLast?_eq_none_iff.1 kU;subst he;refine ⟨[p],rfl,⟨by omega,by simp,fun x hx=>by rw [mem_singleton.1 hx];exact hp.more (by omega),hl,pairwise_singleton _ _,iJ,fun x hx y hy=>by rw [mem_singleton.1 hx];exact gv y hy⟩,fun K=>rfl,fun key=>by simp⟩
 | some q =>
  have hq:=a9E kU;generalize out.dropLast=A at *;subst hq;have vY:q∈A++[q]:=mem_append_right _ mem_cons_self;have V2:=h.CD q vY;have af3:=h.ends q vY p mem_cons_self;rw [aS] at a3M;simp only [length_cons,length_nil] at a3M;dsimp only;by_cases he:bP q.1 p.1=0
  .rw [if_pos he];have hk:=Fm he;obtain ⟨j,hj,vr⟩:=join_some V2.b (.inl V2.ok) hp (by omega:k+1<=5000);rw [hj];have hA:∀x∈A,GA m (k+1) x.2:=fun x hx=>(h.CD x (mem_append_left _ hx)).more (by omega)
   obtain ⟨u1,u2,u3⟩:=pairwise_append.1 h.up;refine ⟨A++[(q.1,j)],rfl,⟨by omega,by simp;omega,fun x hx => ?_,hl,?_,iJ,fun x hx y hy => ?_⟩,fun K => ?_,fun key => ?_⟩
   .rcases mem_append.1 hx with hx | hx
    .exact hA x hx
    .rw [mem_singleton.1 hx];exact vr
   .refine pairwise_append.2 ⟨u1,pairwise_singleton _ _,fun x hx y hy => ?_⟩;rw [mem_singleton.1 hy];exact u3 x hx q mem_cons_self
   .rcases mem_append.1 hx with hx | hx
    .exact h.ends x (mem_append_left _ hx) y (mem_cons_of_mem _ hy)
    .rw [mem_singleton.1 hx];exact h.ends q vY y (mem_cons_of_mem _ hy)
   .rw [append_assoc,append_assoc,QR,QR];have V3:k*A.length<=64*64:=Nat.mul_le_mul (by omega) (by omega);obtain ⟨r,hr,mf,my⟩:=RI (m:=m) (k:=k) K A (fun x hx=>h.CD x (mem_append_left _ hx)) (by omega);rw [hr];show gq r _=gq r _;simp only [cons_append,nil_append,filter_cons];rw [<-hk];by_cases hK:K q.1=true
    .rw [if_pos hK,if_pos hK,if_pos hK];simp only [map_cons];have e:=join_assoc mf my V2 hp (by omega);rw [hj] at e;show (bY r j).bind _=(bY r q.2).bind fun x=>(bY x p.2).bind _
     have e':bY r j=(bY r q.2).bind fun x=>bY x p.2:=e.symm
     rw [e'];cases bY r q.2 with
     | none=>rfl
     | some x=>rfl
    .rw [if_neg hK,if_neg hK,if_neg hK]
   .constructor
    .rintro ⟨x,hx,rfl⟩;rcases mem_append.1 hx with hx | hx
     .exact .inl ⟨x,mem_append_left _ hx,rfl⟩
     .rw [mem_singleton.1 hx];exact .inl ⟨q,vY,rfl⟩
    .rintro (⟨x,hx,rfl⟩ | rfl)
     .rcases mem_append.1 hx with hx | hx
      .exact ⟨x,mem_append_left _ hx,rfl⟩
      .rw [mem_singleton.1 hx];exact ⟨_,mem_append_right _ mem_cons_self,rfl⟩
     .exact ⟨_,mem_append_right _ mem_cons_self,hk⟩
  .rw [if_neg he];refine ⟨A++[q]++[p],rfl,⟨by omega,by simp;omega,fun x hx => ?_,hl,?_,iJ,fun x hx y hy => ?_⟩,fun K => ?_,fun key => ?_⟩
   .rcases mem_append.1 hx with hx | hx
    .exact (h.CD x hx).more (by omega)
    .rw [mem_singleton.1 hx];exact hp.more (by omega)
   .refine pairwise_append.2 ⟨h.up,pairwise_singleton _ _,fun x hx y hy => ?_⟩;rw [mem_singleton.1 hy];have h1:=h.ends x hx p mem_cons_self;rcases mem_append.1 hx with hx' | hx'
    .have h2:=(pairwise_append.1 h.up).2.2 x hx' q mem_cons_self;rcases Int.lt_or_eq_of_le h1 with h3 | h3
     .exact h3
     .exfalso;have h4:=Fm h3;rw [h4,xy] at h2;omega
    .rw [mem_singleton.1 hx'];omega
   .rcases mem_append.1 hx with hx | hx
    .exact h.ends x hx y (mem_cons_of_mem _ hy)
    .rw [mem_singleton.1 hx];exact gv y hy
   .rw [append_assoc (A++[q])];rfl
   .constructor
    .rintro ⟨x,hx,rfl⟩;rcases mem_append.1 hx with hx | hx
     .exact .inl ⟨x,hx,rfl⟩
     .rw [mem_singleton.1 hx];exact .inr rfl
    .rintro (⟨x,hx,rfl⟩ | rfl)
     .exact ⟨x,mem_append_left _ hx,rfl⟩
     .exact ⟨p,mem_append_right _ mem_cons_self,rfl⟩
theorem MB {m n:Nat} (hn:n<=64):∀ (l:List (LN×Ag)) (k:Nat) (out:List (LN×Ag)),M0 m k n out l->∃r,ki out l=some r/\M0 m n n r []/\(∀K,jX K r=jX K (out++l))/\∀key,(∃x∈r,x.1=key)↔((∃x∈out,x.1=key)\/∃x∈l,x.1=key)
 | [],k,out,h=>by
  have ht:=h.pR;simp only [length_nil,Nat.add_zero] at ht;refine ⟨out,rfl,⟨by simp,aT h.Mn ht,fun x hx=>(h.CD x hx).more ht,fun x hx=>(by cases hx),h.up,List.Pairwise.nil,fun x _ y hy=>(by cases hy)⟩,fun K=>by rw [append_nil],fun key=>by simp⟩
 | p::l,k,out,h=>by
  obtain ⟨o,h1,h2,h3,h4⟩:=a6e hn h;obtain ⟨r,k1,k2,k3,k4⟩:=MB hn l (k+1) o h2;refine ⟨r,?_,k2,fun K=>(k3 K).trans (h3 K),fun key => ?_⟩
  .unfold ki;rw [h1];exact k1
  .rw [k4 key,h4 key];constructor
   .rintro ((h5 | h5) | ⟨x,hx,h5⟩)
    .exact .inl h5
    .exact .inr ⟨p,mem_cons_self,h5⟩
    .exact .inr ⟨x,mem_cons_of_mem _ hx,h5⟩
   .rintro (h5 | ⟨x,hx,h5⟩)
    .exact .inl (.inl h5)
    .rcases mem_cons.1 hx with rfl | hx
     .exact .inl (.inr h5)
     .exact .inr ⟨x,hx,h5⟩
theorem F4 {s:aW} (hs:dO s) {rows:List Rw} {ps qs:List (LN×Ag)} (h1:rI s rows ps) (h2:rI s rows qs):ps=qs:=by
 obtain ⟨l,hl,rfl⟩:=h1;obtain ⟨l',ja,rfl⟩:=h2;unfold aG;apply ext_getElem?;intro i;rw [getElem?_map,getElem?_map];by_cases hi:i<rows.length
 .have e1:=gE (l:=l) (i:=i) (by rw [hl.1];exact hi);have e2:=gE (l:=l') (i:=i) (by rw [ja.1];exact hi);obtain ⟨k1,a1⟩:=hl.2 i _ _ (gE hi) e1;obtain ⟨k2,a2⟩:=ja.2 i _ _ (gE hi) e2;rw [e1,e2];show some (pl _)=some (pl _);unfold pl;rw [a1,a2,ju.eq hs k1 k2]
 .rw [getElem?_eq_none (by rw [hl.1];omega),getElem?_eq_none (by rw [ja.1];omega)]
theorem Ym {s:aW} (hs:dO s) {r:Rw} {keys:LN} (h:ju s r keys):xN s keys:=by
 refine ⟨h.n,fun d hd hk h0 => ?_⟩;have ht:d<r.aQ.length:=by rw [h.nt];exact hd
 have h1:=h.at_ d _ _ _ (gE hd) (gE ht) (gE hk);have h2:=(bS h1).1;rw [Qy h0] at h2;exact h2
theorem a6S {s:aW} (hs:dO s) {r:Rw} {keys:LN} (h:ju s r keys):lP s.aU.length (iD r.dP):=by
 have hv:=h.nv;have e:∀i,pv (r.dP.take r.dP.length) i=pv r.dP i:=fun i=>by rw [take_of_length_le (ah _)]
 have ez:∀i,s.aU.length<=i->pv r.dP i=0:=fun i hi=>by
  unfold pv;rw [getElem?_eq_none (by omega)];rfl
 unfold iD lQ;refine ⟨Int.le_refl _,fun k hk _ => ?_,fun k hk _ _ => ?_,fun k hk hm => ?_⟩
 .match k,hk with
  | 0,_=>exact Int.le_refl _
  | 1,_=>exact Int.le_refl _
  | 2,_=>exact Int.le_refl _
 .match k,hk with
  | 0,_=>exact ⟨rfl,rfl⟩
  | 1,_=>exact ⟨rfl,rfl⟩
  | 2,_=>exact ⟨rfl,rfl⟩
 .match k,hk with
  | 0,_=>exact ⟨(e 0).trans (ez 0 hm),(e 0).trans (ez 0 hm),(e 0).trans (ez 0 hm)⟩
  | 1,_=>exact ⟨(e 1).trans (ez 1 hm),(e 1).trans (ez 1 hm),(e 1).trans (ez 1 hm)⟩
  | 2,_=>exact ⟨(e 2).trans (ez 2 hm),(e 2).trans (ez 2 hm),(e 2).trans (ez 2 hm)⟩
theorem a7i {l:List Int} (hf:∀x∈l,fit x) (h:sD (iD l)):mK 1 (iD l):=by
 refine ⟨show (0:Int)<=1 by decide,show (1:Int)<=((1:Nat):Int)*1000000000 by decide,?_,?_,?_,a01 hf⟩
 .have:=h.2 0 (by decide);simpa [ps] using this
 .have:=h.2 1 (by decide);simpa [ps] using this
 .have:=h.2 2 (by decide);simpa [ps] using this
theorem ZI {s:aW} {rows:List Rw} (ho:qI s rows) (zB:∀r∈rows,∀x∈r.dP,fit x) {ps:List (LN×Ag)} (h:rI s rows ps) (hw:∀x∈ps,sD x.2):ps.length=rows.length/\∀x∈ps,xN s x.1/\GA s.aU.length 1 x.2:=by
 obtain ⟨l,hl,rfl⟩:=h;refine ⟨by unfold aG;rw [lM];exact hl.1,fun x hx => ?_⟩;have Kv:=hw x hx;unfold aG at hx;obtain ⟨f,hf,rfl⟩:=mem_map.1 hx;obtain ⟨i,hi,rfl⟩:=getElem_of_mem hf;have OQ:i<rows.length:=by rw [<-hl.1];exact hi
 obtain ⟨k1,a1⟩:=hl.2 i _ _ (gE OQ) (gE hi);have a3N:sD l[i].ag:=Kv;refine ⟨Ym ho.eF k1,?_⟩;show GA s.aU.length 1 l[i].ag;rw [a1] at a3N ⊢;exact ⟨a7i (zB _ (gM OQ)) a3N,a6S ho.eF k1⟩
theorem a9S {s:aW} {rows:List Rw} (ho:qI s rows) (hn:rows.length<=64) (zB:∀r∈rows,∀x∈r.dP,fit x) {ps qs r:List (LN×Ag)} {l:List Fa} (h:rI s rows ps) (hp:qs.Perm ps) (hs:xC qs) (hf:ki [] qs=some r) (hl:l.map pl=r) (hw:∀x∈ps,sD x.2) :
 gK s l/\(∀K,jX K (aG l)=jX K ps)/\∀key,(∃x∈aG l,x.1=key)↔∃x∈ps,x.1=key:=by
 obtain ⟨aX,th⟩:=ZI ho zB h hw;have hq:∀x∈qs,xN s x.1/\GA s.aU.length 1 x.2:=fun x hx=>th x (hp.mem_iff.1 hx)
 have gY:qs.length=rows.length:=by rw [hp.length_eq,aX]
 obtain ⟨r',h1,h2,h3,h4⟩:=MB (m:=s.aU.length) (n:=rows.length) hn qs 0 [] ⟨by omega,ah _,(fun x hx=>by cases hx),(fun x hx=>(hq x hx).2),List.Pairwise.nil,hs,(fun x hx=>by cases hx)⟩;rw [hf] at h1;injection h1 with h1
 subst h1;have om:∀key,(∃x∈r,x.1=key)↔∃x∈ps,x.1=key:=fun key=>by
  rw [h4 key];constructor
  .rintro (⟨x,hx,_⟩ | ⟨x,hx,e⟩)
   .cases hx
   .exact ⟨x,hp.mem_iff.1 hx,e⟩
  .rintro ⟨x,hx,e⟩;exact .inr ⟨x,hp.mem_iff.2 hx,e⟩
 have L4:aG l=r:=hl;refine ⟨⟨?_,fun f gZ => ?_,fun f gZ => ?_,fun i hi => ?_⟩,fun K => ?_,by rw [L4];exact om⟩
 .have:=h2.Mn;rw [<-hl,lM] at this;omega
 .obtain ⟨x,hx,e⟩:=(om f.keys).1 ⟨pl f,by rw [<-hl];exact mem_map_of_mem gZ,rfl⟩;rw [<-e];exact (th x hx).1
 .have:=h2.CD (pl f) (by rw [<-hl];exact mem_map_of_mem gZ);exact ⟨(this.more hn).b,this.ok⟩
 .have mG:=h2.up;rw [<-hl,pairwise_map] at mG;exact pairwise_iff_getElem.1 mG i (i+1) (by omega) hi (by omega)
 .rw [L4,h3 K,nil_append];unfold jX;refine Yv (m:=s.aU.length) (k:=1) ((hp.filter _).map _) aO 0 LS (.inr rfl) (fun a ha => ?_) ?_
  .obtain ⟨x,hx,rfl⟩:=mem_map.1 ha;exact (hq x (mem_filter.1 hx).1).2
  .rw [lM];have:=length_filter_le (fun x:LN×Ag=>K x.1) qs;omega
def F6 (nd:Nat) (st:St) (j:Nat):Prop:=∃ (i:Nat) (n:aI) (c:Cl),st.nodes[i]? = some n/\n.aj+1<nd/\c∈di n/\c.child=j
theorem F6.ext {nd:Nat} {a b:St} {j:Nat} (h:F6 nd a j) (he:Ext a b):F6 nd b j:=by
 obtain ⟨i,n,c,h1,h2⟩:=h;exact ⟨i,n,c,he.node h1,h2⟩
structure Fj (nd:Nat) (f:Option Rec) (b st:St) (S:LN):Prop where
 ext:Ext b st
 uJ:∀j,b.nodes.length<=j->j<st.nodes.length->j∈S\/F6 nd st j
 none:f=none->st=b
def R0 (nd:Nat) (g:Rec):Prop:=∀part st r,g part st=some r->Ext st r.1/\∀j,st.nodes.length<=j->j<r.1.nodes.length->j=r.2\/F6 nd r.1 j
section
variable {ps:List (LN×Ag)} {nd:Nat} {f:Option Rec} (hf:∀g,f=some g->R0 nd g)
include hf
theorem a15 {b:St} {S:LN} {key:Nat} {part:LN} {st:St} {r:St×Cl} (h:il ps f key part st=some r) (hn:Fj nd f b st S):Fj nd f b r.1 (S++[r.2.child]):=by
 unfold il at h;split at h
 .injection h with h
  subst h;refine ⟨hn.ext,fun j h1 h2 => ?_,fun _=>hn.none rfl⟩;rw [hn.none rfl] at h2;exact absurd h2 (Nat.not_lt.2 h1)
 .rename_i g;obtain ⟨q,hq,rfl⟩:=Option.map_eq_some_iff.1 h;obtain ⟨k1,k2⟩:=hf g rfl part st q hq;refine ⟨hn.ext.trans k1,fun j h1 h2 => ?_,fun e=>by cases e⟩;by_cases hj:j<st.nodes.length
  .rcases hn.uJ j h1 hj with h3 | h3
   .exact .inl (mem_append_left _ h3)
   .exact .inr (h3.ext k1)
  .rcases k2 j (by omega) h2 with h3 | h3
   .exact .inl (mem_append_right _ (by rw [h3];exact mem_cons_self))
   .exact .inr h3
theorem Y3 {b:St}:∀ (gs:List (Nat×LN)) (s r:St×List Cl) (S:LN),iA ps f gs s=some r->Fj nd f b s.1 (S++s.2.map Cl.child)->Fj nd f b r.1 (S++r.2.map Cl.child)
 | [],s,r,S,h,hn=>by injection h with h;subst h;exact hn
 | g::gs,s,r,S,h,hn=>by
  unfold iA at h;obtain ⟨q,hq,h⟩:=Option.bind_eq_some_iff.1 h;have h1:=a15 hf hq hn;refine Y3 gs _ r S h ?_;rw [map_append,<-append_assoc];exact h1
theorem Yn {b:St} {at_:Nat} {part:LN}:∀ (ls:List LN) (s r:St×List (List Cl)),iP ps f at_ part ls s=some r->Fj nd f b s.1 (s.2.flatten.map Cl.child)->Fj nd f b r.1 (r.2.flatten.map Cl.child)
 | [],s,r,h,hn=>by injection h with h;subst h;exact hn
 | l::ls,s,r,h,hn=>by
  unfold iP at h;obtain ⟨q,hq,h⟩:=Option.bind_eq_some_iff.1 h;have h1:=Y3 hf _ (s.1,[]) q (s.2.flatten.map Cl.child) hq (by simpa using hn);refine Yn ls _ r h ?_;rw [flatten_append,map_append];simpa using h1
theorem a0y {at_ most:Nat} {lifts:List (List LN)} (br:∀g,f=some g->at_+1<nd):R0 nd (fR ps lifts most f at_):=by
 intro part st r h;unfold fR at h;split at h
 .injection h with h
  subst h;exact ⟨Ext.refl _,fun j h1 h2=>by dsimp only at h2;omega⟩
 .obtain ⟨q,hq,h⟩:=Option.bind_eq_some_iff.1 h;obtain ⟨x,hx,h⟩:=Option.bind_eq_some_iff.1 h;split at h
  .injection h with h
   subst h;have h1:=Yn hf _ (st,[]) q hq ⟨Ext.refl _,fun j h1 h2=>absurd h2 (Nat.not_lt.2 h1),fun _=>rfl⟩;have h2:=a15 hf hx h1;have hE:Ext x.1 ⟨x.1.nodes++[⟨at_,q.2,x.2⟩],x.1.parts++[(at_,part)]⟩:=⟨_,_,rfl,rfl⟩
   refine ⟨h2.ext.trans hE,fun j h3 h4 => ?_⟩;dsimp only at h4 ⊢;rw [aS] at h4;simp only [length_cons,length_nil] at h4;by_cases hj:j=x.1.nodes.length
   .exact .inl hj
   .rcases h2.uJ j h3 (by omega) with h5 | h5
    .right
     cases hfe:f with
     | none =>
      have:=h2.none hfe;rw [this] at hj h4;exact absurd (Nat.lt_of_le_of_ne (Nat.le_of_lt_succ h4) hj) (Nat.not_lt.2 h3)
     | some g =>
      have hc:∃c∈di ⟨at_,q.2,x.2⟩,c.child=j:=by
       rcases mem_append.1 h5 with h6 | h6
       .obtain ⟨c,hc,e⟩:=mem_map.1 h6;exact ⟨c,mem_append_left _ hc,e⟩
       .exact ⟨x.2,mem_append_right _ mem_cons_self,(mem_singleton.1 h6).symm⟩
      obtain ⟨c,hc,e⟩:=hc;exact ⟨x.1.nodes.length,_,c,by rw [getElem?_append_right (ah _),Nat.sub_self];rfl,br g hfe,hc,e⟩
    .exact .inr (h5.ext hE)
  .cases h
end
theorem Ra {ps:List (LN×Ag)} {lifts:List (List LN)} {most nd:Nat}:∀ {d:Nat},d<nd->R0 nd (visit ps lifts most nd d)
 | 0,h=>a0y (f:=none) (fun g e=>by cases e) (fun g e=>by cases e)
 | d+1,h=>a0y (f:=some (visit ps lifts most nd d)) (fun g e=>by injection e with e;subst e;exact Ra (by omega)) (fun g _=>by omega)
theorem MV {ps:List (LN×Ag)} {lifts:List (List LN)} {most nd d:Nat} {part:LN} {r:St×Nat} (h:visit ps lifts most nd d part ⟨[],[]⟩=some r):r.2+1=r.1.nodes.length:=by
 have H:∀ (f:Option Rec) (a:Nat),fR ps lifts most f a part ⟨[],[]⟩=some r->r.2+1=r.1.nodes.length:=fun f a h=>by
  unfold fR at h;have e:jw a part ([]:List (Nat×LN))=none:=rfl;dsimp only at h;rw [e] at h;dsimp only at h;obtain ⟨q,hq,h⟩:=Option.bind_eq_some_iff.1 h;obtain ⟨x,hx,h⟩:=Option.bind_eq_some_iff.1 h;split at h
  .injection h with h
   subst h;simp
  .cases h
 cases d with
 | zero=>exact H none _ h
 | succ d=>exact H _ _ h
structure CubeS (s:aW) (fs:List Fa) (st:St):Prop where
 kZ:Good (aG fs) (s.ak.map gl) s.ak.length st
 top:st.parts[st.nodes.length-1]? = some (0,range fs.length)
 pos:0<st.nodes.length
 uJ:∀j,j+1<st.nodes.length->F6 s.ak.length st j
theorem PH {s:aW} {fs:List Fa} {most:Nat} {ns:List aI} (hs:dO s) (av:fs≠[]) (h:dQ s fs most=some ns):∃st,st.nodes=ns/\CubeS s fs st:=by
 unfold dQ at h;rw [if_neg av] at h;obtain ⟨r,hr,rfl⟩:=Option.map_eq_some_iff.1 h;have hn:=hs.n1;have cM:(aG fs).length=fs.length:=by unfold aG;rw [lM]
 obtain ⟨h1,h2,h3⟩:=Mz (by omega:s.ak.length-1<s.ak.length) (range fs.length) ⟨[],[]⟩ r hr (Good.nil _ _ _) (by
  have:=QD (ps:=aG fs) (by unfold aG;simpa using av);rw [cM] at this
  exact this)
 obtain ⟨_,h4⟩:=Ra (by omega:s.ak.length-1<s.ak.length) _ _ _ hr;have ht:=MV hr;refine ⟨r.1,rfl,h1,?_,by omega,fun j hj => ?_⟩
 .rw [<-ht,Nat.add_sub_cancel,h3,Nat.sub_self]
 .rcases h4 j (aZ _) (by omega) with h5 | h5
  .omega
  .exact h5
section
variable {s:aW} {fs:List Fa} {st:St}
theorem CubeS.at_ (h:CubeS s fs st) {i:Nat} {n:aI} (hn:st.nodes[i]? = some n):∃p,st.parts[i]? = some p/\p.1<s.ak.length/\kV (aG fs) p.2/\xt (aG fs) (s.ak.map gl) s.ak.length st p.1 p.2 n:=by
 have hi:=(bS hn).1;have hp:=gE (l:=st.parts) (i:=i) (by rw [h.kZ.len];exact hi);obtain ⟨h1,h2⟩:=h.kZ.part i _ hp;exact ⟨_,hp,h1,h2,h.kZ.rep i n _ hn hp⟩
theorem CubeS.yN (h:CubeS s fs st):EZ s.ak.length st.nodes:=by
 refine ⟨fun i n hn hd c hc=>h.kZ.back i n hn (by omega) c hc,fun n hn => ?_,fun j hj=>h.uJ j hj,fun n hn => ?_⟩
 .obtain ⟨p,hp,_,_,hr⟩:=h.at_ hn;rw [h.top] at hp;injection hp with hp
  subst hp;exact hr.aj
 .obtain ⟨i,hi,rfl⟩:=getElem_of_mem hn;obtain ⟨p,hp,h1,_,hr⟩:=h.at_ (gE hi);rw [hr.aj];exact h1
theorem CubeS.lists (h:CubeS s fs st) (hs:dO s) {i:Nat} {n:aI} (hn:st.nodes[i]? = some n):n.lists≠[]/\n.lists.length<=4/\∀l∈n.lists,l.length<=200:=by
 obtain ⟨p,hp,h1,h2,hr⟩:=h.at_ hn;have hd:s.ak[p.1]? = some (s.ak[p.1]'h1):=gE h1;have hl:((s.ak.map gl)[p.1]?).getD []=gl (s.ak[p.1]'h1):=by rw [getElem?_map,hd];rfl
 have ho:=hs.ak _ h1;have lZ:=hr.lists;rw [hl] at lZ;have aX:(gl (s.ak[p.1]'h1)).length=(s.ak[p.1]'h1).aw.length:=by unfold gl;rw [lM,length_range]
 have e:=lZ.1;rw [aX] at e;refine ⟨fun he=>by have:=ho.n1;rw [he,length_nil] at e;omega,by have:=ho.n2;omega,fun l ja => ?_⟩;obtain ⟨k,hk,rfl⟩:=getElem_of_mem ja;obtain ⟨lift,FM,fg⟩:=dI.left lZ (gE hk);have e2:=fg.1;rw [<-e2];unfold eu;refine aT (length_filterMap_le _ _) ?_;simp
end
theorem a0v (key:Nat->Nat) (n:Nat):∀part:LN,(part.filter fun i=>decide (key i<n+1)).length=(part.filter fun i=>decide (key i<n)).length+(ia key part n).length
 | []=>rfl
 | x::l=>by
  have ih:=a0v key n l;unfold ia at ih ⊢;simp only [filter_cons];by_cases h1:key x<n
  .have h2:key x<n+1:=by omega
   have h3:(key x == n)=false:=by simp;omega
   simp only [h1,h2,h3,decide_true,if_true,length_cons];simp only [Bool.false_eq_true,if_false];omega
  .by_cases h4:key x=n
   .have h2:key x<n+1:=by omega
    have h3:(key x == n)=true:=by simp [h4]
    simp only [h1,h2,h3,decide_true,decide_false,if_true,length_cons];simp only [Bool.false_eq_true,if_false];omega
   .have h2:¬key x<n+1:=by omega
    have h3:(key x == n)=false:=by simp [h4]
    simp only [h1,h2,h3,decide_false];simp only [Bool.false_eq_true,if_false];exact ih
theorem a0E {key:Nat->Nat} {part:LN} (h:∀i∈part,key i<200):((eu key part).map fun g=>g.2.length).sum=part.length:=by
 have H:∀n,(((range n).filterMap fun k=>if ia key part k=[] then none else some (k,ia key part k)).map fun g=>g.2.length).sum=(part.filter fun i=>decide (key i<n)).length:=by
  intro n
  induction n with
  | zero =>
   rw [filter_eq_nil_iff.2 (fun i _=>by simp)];rfl
  | succ n ih =>
   rw [range_succ,filterMap_append,map_append,sum_append,ih,a0v]
   congr 1
   by_cases he:ia key part n=[]
   .simp [he]
   .simp [he]
 unfold eu;rw [H 200,filter_eq_self.2 (fun i hi=>decide_eq_true (h i hi))]
section
variable {s:aW} {fs:List Fa} {st:St}
theorem CubeS.node (h:CubeS s fs st) {i:Nat} {p:Nat×LN} (hp:st.parts[i]? = some p):∃n,st.nodes[i]? = some n/\p.1<s.ak.length/\kV (aG fs) p.2/\xt (aG fs) (s.ak.map gl) s.ak.length st p.1 p.2 n:=by
 have hi:=(bS hp).1;have hn:=gE (l:=st.nodes) (i:=i) (by rw [<-h.kZ.len];exact hi);obtain ⟨h1,h2⟩:=h.kZ.part i _ hp;exact ⟨_,hn,h1,h2,h.kZ.rep i _ _ hn hp⟩
theorem QZ {d:cR} (a:Nat) (hd:s.ak[a]? = some d):((s.ak.map gl)[a]?).getD []=gl d:=by rw [getElem?_map,hd];rfl
theorem aaA (d:cR) (k:Nat) (hk:k<d.aw.length):(gl d)[k]? = some (fq d k):=by
 unfold gl;rw [getElem?_map,getElem?_range hk];rfl
theorem CubeS.row (h:CubeS s fs st) {a i:Nat} {part:LN} (hp:st.parts[i]? = some (a,part)) {d:cR} (hd:s.ak[a]? = some d) {k:Nat} (hk:k<d.aw.length):∃n l,st.nodes[i]? = some n/\n.aj=a/\n.lists.length=d.aw.length/\n.lists[k]? = some l/\yQ (aG fs) (decide (a+1=s.ak.length)) st a (eu (fP (aG fs) (fq d k) a) part) l:=by
 obtain ⟨n,hn,h1,h2,hr⟩:=h.node hp;have hl:=hr.lists;dsimp only at hl h1;rw [QZ a hd] at hl;obtain ⟨l,h3,h4⟩:=dI.right hl (aaA d k hk);refine ⟨n,l,hn,hr.aj,?_,h3,h4⟩;rw [<-hl.1];unfold gl;rw [lM,length_range]
theorem Mr {nodes:List aI} {i:Nat} {n:aI} {l:List Cl} (hn:nodes[i]? = some n) (hl:n.lists[0]? = some l):yR nodes i=l:=by unfold yR;rw [hn];show (n.lists[0]?).getD []=l;rw [hl];rfl
theorem CubeS.a0q (h:CubeS s fs st) (hs:dO s):∀ (d i a:Nat) (part:LN),st.parts[i]? = some (a,part)->a+d+1=s.ak.length->CW st.nodes d i
 | 0,i,a,part,hp,ha=>by
  obtain ⟨n,hn,h1,h2,hr⟩:=h.node hp;exact ⟨n,hn,(h.lists hs hn).1⟩
 | d+1,i,a,part,hp,ha=>by
  have mF:a<s.ak.length:=by omega
  have hd:=gE mF;obtain ⟨n,l,hn,_,_,h3,h4⟩:=h.row hp hd (k:=0) (hs.ak a mF).n1;refine ⟨n,hn,(h.lists hs hn).1,fun c hc => ?_⟩;rw [Mr hn h3] at hc;obtain ⟨q,hq,rfl⟩:=getElem_of_mem hc;obtain ⟨g,hg,hr⟩:=dI.left h4 (gE hq);have h5:=hr.2;rw [if_neg (by simp;omega)] at h5;exact h.a0q hs d _ (a+1) g.2 h5.2 (by omega)
def ei (fs:List Fa) (i:Nat):LN:=(((aG fs)[i]?).getD ([],aO)).1
theorem N6 (h:gK s fs) {i:Nat} (hi:i<fs.length):(ei fs i).length=s.ak.length/\xN s (ei fs i):=by
 unfold ei aG;rw [getElem?_map,gE hi];have:=h.keys _ (gM hi);exact ⟨this.len,this⟩
theorem CR (h:gK s fs) {i a:Nat} (hi:i<fs.length) (ha:a<s.ak.length):(ei fs i)[a]? = some (sC (aG fs) a i):=by
 obtain ⟨h1,h2⟩:=N6 h hi;unfold sC;show (ei fs i)[a]? = some (((ei fs i)[a]?).getD 0);rw [gE (by rw [h1];exact ha)];rfl
theorem XP (hs:dO s) (h:gK s fs) {i a:Nat} (hi:i<fs.length) {d:cR} (hd:s.ak[a]? = some d):sC (aG fs) a i<(fin d).length:=by
 obtain ⟨ha,e⟩:=bS hd;have h0:=CR h hi ha;obtain ⟨h1,h2⟩:=N6 h hi;obtain ⟨hk,e2⟩:=bS h0;have ho:=ze hs hd;subst e;have h3:=h2.each a ha hk ho.n1;rw [Rl ho,<-e2];exact h3
theorem EX (hs:dO s) (h:gK s fs) {i a:Nat} (hi:i<fs.length) {d:cR} (hd:s.ak[a]? = some d) (k:Nat):fP (aG fs) (fq d k) a i=iQ d k (sC (aG fs) a i):=by
 unfold fP;rw [ML d k (XP hs h hi hd)];rfl
theorem Qx (hs:dO s) (h:gK s fs) {i a:Nat} (hi:i<fs.length) {d:cR} (hd:s.ak[a]? = some d) {k:Nat} (hk:k<d.aw.length):fP (aG fs) (fq d k) a i<200:=by
 rw [EX hs h hi hd];have ho:=ze hs hd;have h1:=XP hs h hi hd;rw [Rl ho] at h1;have h2:=Nb ho hk h1;have h3:=(ho.aw k hk).n2;omega
theorem CubeS.count (h:CubeS s fs st) (hs:dO s) (hf:gK s fs):∀ (d i a:Nat) (part keys:LN),st.parts[i]? = some (a,part)->a+d+1=s.ak.length->(∀x∈part,∀y∈part,(ei fs x).drop a=(ei fs y).drop a->x=y)->(nU st.nodes d i keys).length=part.length:=by
 have cM:(aG fs).length=fs.length:=by unfold aG;rw [lM]
 intro d
 induction d with
 | zero =>
  intro i a part keys hp ha hx;have mF:a<s.ak.length:=by omega
  have hd:=gE mF;obtain ⟨n,l,hn,_,_,h3,h4⟩:=h.row hp hd (k:=0) (hs.ak a mF).n1;obtain ⟨_,_,_,jR,_⟩:=h.node hp;have ae:∀x∈part,x<fs.length:=fun x hx=>by have:=jR.lt x hx;rw [cM] at this;exact this
  show (AQ st.nodes none i keys).length=_;unfold AQ;rw [Mr hn h3,length_flatMap,<-a0E (key:=fP (aG fs) (fq _ 0) a) (part:=part) (fun x hx'=>Qx hs hf (ae x hx') hd (hs.ak a mF).n1)]
  congr 1
  apply ext_getElem?;intro q;rw [getElem?_map,getElem?_map];by_cases hq:q<l.length
  .obtain ⟨g,hg,_⟩:=dI.left h4 (gE hq);rw [hg,gE hq];show some (AN none keys _).length=some g.2.length;have tg:=uO.1 (mem_of_getElem? hg);have h1:(AN none keys l[q]).length=1:=rfl;rw [h1]
   congr 1
   rcases j':g.2 with _ | ⟨x,xs⟩
   .exact absurd j' tg.2.2
   .have mu:∀z∈g.2,z∈part/\sC (aG fs) a z=g.1:=fun z hz=>by
     rw [tg.2.1] at hz;obtain ⟨h6,h7⟩:=mem_filter.1 hz;have h8:=beq_iff_eq.1 h7;rw [EX hs hf (ae z h6) hd] at h8;exact ⟨h6,h8⟩
    have lj:∀y∈xs,y=x:=fun y hy=>by
     obtain ⟨y1,y2⟩:=mu y (by rw [j'];exact mem_cons_of_mem _ hy);obtain ⟨x1,x2⟩:=mu x (by rw [j'];exact mem_cons_self);refine hx y y1 x x1 ?_;have e:∀z,z∈part->(ei fs z).drop a=[sC (aG fs) a z]:=fun z hz=>by
      have h9:=(N6 hf (ae z hz)).1;obtain ⟨zz,D5⟩:=bS (CR hf (ae z hz) mF);rw [drop_eq_getElem_cons zz,D5,drop_of_length_le (by omega)]
     rw [e y y1,e x x1,y2,x2]
    have da:g.2.Nodup:=(jR.group (mem_of_getElem? hg)).nd;rw [j'] at da;rcases ow:xs with _ | ⟨y,ys⟩
    .rfl
    .exfalso;have:=lj y (by rw [ow];exact mem_cons_self);rw [ow,this] at da;exact (nodup_cons.1 da).1 mem_cons_self
  .rw [getElem?_eq_none (by omega:l.length<=q),getElem?_eq_none (by have:=h4.1;omega)];rfl
 | succ d ih =>
  intro i a part keys hp ha hx;have mF:a<s.ak.length:=by omega
  have hd:=gE mF;obtain ⟨n,l,hn,_,_,h3,h4⟩:=h.row hp hd (k:=0) (hs.ak a mF).n1;obtain ⟨_,_,_,jR,_⟩:=h.node hp;have ae:∀x∈part,x<fs.length:=fun x hx=>by have:=jR.lt x hx;rw [cM] at this;exact this
  show (AQ st.nodes (some (nU st.nodes d)) i keys).length=_;unfold AQ;rw [Mr hn h3,length_flatMap,<-a0E (key:=fP (aG fs) (fq _ 0) a) (part:=part) (fun x hx'=>Qx hs hf (ae x hx') hd (hs.ak a mF).n1)]
  congr 1
  apply ext_getElem?;intro q;rw [getElem?_map,getElem?_map];by_cases hq:q<l.length
  .obtain ⟨g,hg,hr⟩:=dI.left h4 (gE hq);rw [hg,gE hq];show some (nU st.nodes d l[q].child (keys++[l[q].key])).length=some g.2.length;have h5:=hr.2;rw [if_neg (by simp;omega)] at h5;have tg:=uO.1 (mem_of_getElem? hg)
   congr 1
   refine ih _ (a+1) g.2 _ h5.2 (by omega) (fun x hx' y zg e => ?_);have mu:∀z∈g.2,z∈part/\sC (aG fs) a z=g.1:=fun z hz=>by
    rw [tg.2.1] at hz;obtain ⟨h6,h7⟩:=mem_filter.1 hz;have h8:=beq_iff_eq.1 h7;rw [EX hs hf (ae z h6) hd] at h8;exact ⟨h6,h8⟩
   obtain ⟨x1,x2⟩:=mu x hx';obtain ⟨y1,y2⟩:=mu y zg;refine hx x x1 y y1 ?_;have ed:∀z,z∈part->(ei fs z).drop a=sC (aG fs) a z::(ei fs z).drop (a+1):=fun z hz=>by
    obtain ⟨zz,D5⟩:=bS (CR hf (ae z hz) mF);rw [drop_eq_getElem_cons zz,D5]
   rw [ed x x1,ed y y1,x2,y2,e]
  .rw [getElem?_eq_none (by omega:l.length<=q),getElem?_eq_none (by have:=h4.1;omega)];rfl
theorem CubeS.Rz (h:CubeS s fs st) (hs:dO s) (hf:gK s fs):(pM s.ak.length st.nodes).length=fs.length:=by
 have hn:=hs.n1;have sU:=h.pos;unfold pM;rw [if_neg (fun e=>by rw [e] at sU;simp at sU),h.count hs hf (s.ak.length-1) (st.nodes.length-1) 0 (range fs.length) [] h.top (by omega) (fun x hx y hy e => ?_),length_range];rw [drop_zero,drop_zero] at e;have hx':=mem_range.1 hx;have zg:=mem_range.1 hy;have ek:∀z (hz:z<fs.length),ei fs z=fs[z].keys:=fun z hz=>by unfold ei aG;rw [getElem?_map,gE hz];rfl
 rw [ek x hx',ek y zg] at e;have H:∀u v (hu:u<fs.length) (hv:v<fs.length),u<v->bP fs[u].keys fs[v].keys<0:=by
  intro u v
  induction v with
  | zero=>intro hu hv h;omega
  | succ v ih =>
   intro hu hv huv;have h1:=hf.vN v hv;by_cases FJ:u=v
   .subst FJ;exact h1
   .have h2:=ih hu (by omega) (by omega);have h3:=Fw (Int.le_of_lt h2) (Int.le_of_lt h1);rcases Int.lt_or_eq_of_le h3 with h4 | h4
    .exact h4
    .exfalso;have h5:=Fm h4;rw [<-h5,xy] at h1;omega
 rcases Nat.lt_trichotomy x y with h1 | h1 | h1
 .have:=H x y hx' zg h1;rw [e,AU] at this;omega
 .exact h1
 .have:=H y x zg hx' h1;rw [e,AU] at this;omega
end
def under (s:aW) (fs:List Fa) (p:Pos) (d i:Nat):Bool:=decide (p.dm<0)||(((iQ ((s.ak[d]?).getD ⟨⟨#[]⟩,none,[],0⟩) p.dm.toNat (sC (aG fs) d i):Nat):Int) == p.key)
def vQ (s:aW) (fs:List Fa):List Pos->Nat->LN->LN
 | [],_,part=>part
 | p::l,a,part=>vQ s fs l (a+1) (part.filter (under s fs p a))
theorem XE (s:aW) (fs:List Fa):∀ (l:List Pos) (a:Nat),vQ s fs l a []=[]
 | [],_=>rfl
 | p::l,a=>XE s fs l (a+1)
section
variable {s:aW} {fs:List Fa} {st:St}
theorem CubeS.ask (h:CubeS s fs st) (hs:dO s) (hf:gK s fs) {a i:Nat} {part:LN} (hp:st.parts[i]? = some (a,part)) {d:cR} (hd:s.ak[a]? = some d) {p:Pos} (lh:Ma d p) :
 ∃n,st.nodes[i]? = some n/\n.aj=a/\IL p n/\p.dm<(n.lists.length:Int)/\1<=n.lists.length /\
  (part.filter (under s fs p a)=[]->kd p n=none)/\(part.filter (under s fs p a)≠[]->∃c k,kd p n=some c/\rL (aG fs) (decide (a+1=s.ak.length)) st a k (part.filter (under s fs p a)) c):=by
 have cM:(aG fs).length=fs.length:=by unfold aG;rw [lM]
 have mF:=(bS hd).1;have ho:=ze hs hd;obtain ⟨_,_,_,jR,_⟩:=h.node hp;have ae:∀x∈part,x<fs.length:=fun x hx=>by have:=jR.lt x hx;rw [cM] at this;exact this
 have hdd:(s.ak[a]?).getD ⟨⟨#[]⟩,none,[],0⟩=d:=by rw [hd];rfl
 rcases lh with ⟨h1,h2⟩ | ⟨t,q,ht,h1,h2,h3⟩
 .obtain ⟨n,l,hn,eH,aX,_,_⟩:=h.row hp hd (k:=0) ho.n1;obtain ⟨n',iM,_,_,hr⟩:=h.node hp;rw [hn] at iM;injection iM with iM
  subst iM;have e:part.filter (under s fs p a)=part:=filter_eq_self.2 (fun i hi=>by unfold under;rw [h1];rfl);have E6:kd p n=some n.all:=by unfold kd;rw [if_pos (by omega)]
  refine ⟨n,hn,eH,.inl (by omega),by omega,by rw [aX];exact ho.n1,fun he => ?_,fun _=>⟨_,0,E6,by rw [e];exact hr.all⟩⟩;rw [e] at he;exact absurd he jR.ne
 .obtain ⟨n,l,hn,eH,aX,hl,fg⟩:=h.row hp hd (k:=t) ht;have ek:∀x∈part,under s fs p a x=(fP (aG fs) (fq d t) a x == q):=fun x hx=>by
   unfold under;rw [hdd,h1,h2,EX hs hf (ae x hx) hd,decide_eq_false (by omega:¬ (t:Int)<0),Bool.false_or,Int.toNat_natCast];rw [Bool.eq_iff_iff];simp only [beq_iff_eq];omega
  have a3O:part.filter (under s fs p a)=ia (fP (aG fs) (fq d t) a) part q:=by
   unfold ia;exact filter_congr ek
  have a2L:q<200:=by have:=(ho.aw t ht).n2;omega
  have wU:∀ (j:Nat) (hj:j<l.length),∃g,(eu (fP (aG fs) (fq d t) a) part)[j]? = some g/\l[j].key=g.1/\rL (aG fs) (decide (a+1=s.ak.length)) st a g.1 g.2 l[j]:=fun j hj=>by
   obtain ⟨g,hg,hr⟩:=dI.left fg (gE hj);exact ⟨g,hg,hr.1,hr⟩
  have a3P:∀j (hj:j+1<l.length),l[j].key<l[j+1].key:=fun j hj=>by
   obtain ⟨g1,e1,k1,_⟩:=wU j (by omega);obtain ⟨g2,e2,k2,_⟩:=wU (j+1) hj;obtain ⟨i1,f1⟩:=bS e1;obtain ⟨i2,f2⟩:=bS e2;have:=pairwise_iff_getElem.1 (IP (fP (aG fs) (fq d t) a) part) j (j+1) i1 i2 (by omega);rw [k1,k2,<-f1,<-f2];exact this
  have af4:=(h.lists hs hn).2.2 l (mem_of_getElem? hl);have E6:kd p n=cellAt l q:=by
   unfold kd;rw [if_neg (by omega),h1,h2,Int.toNat_natCast,Int.toNat_natCast,hl];rfl
  refine ⟨n,hn,eH,.inr ⟨t,q,l,h1,h2,hl,by omega,a3P⟩,by omega,by rw [aX];exact ho.n1,fun he => ?_,fun av => ?_⟩
  .rw [E6];refine a0R (fun j hj e => ?_);obtain ⟨g,hg,k1,_⟩:=wU j hj;have tg:=uO.1 (mem_of_getElem? hg);rw [<-k1,e,<-a3O,he] at tg;exact tg.2.2 tg.2.1
  .rw [a3O] at av ⊢;have hg:(q,ia (fP (aG fs) (fq d t) a) part q)∈eu (fP (aG fs) (fq d t) a) part:=uO.2 ⟨a2L,rfl,av⟩;obtain ⟨j,hj,e⟩:=getElem_of_mem hg;have lu:j<l.length:=by rw [<-fg.1];exact hj
   obtain ⟨g,hg',k1,hr⟩:=wU j lu;rw [gE hj,e] at hg';injection hg' with hg'
   subst hg';dsimp only at k1;refine ⟨l[j],q,?_,hr⟩;rw [E6,<-k1];exact Zv a3P lu
theorem CubeS.along (h:CubeS s fs st) (hs:dO s) (hf:gK s fs):∀ (l:List Pos) (a i:Nat) (part:LN) (c0:Cl),l≠[]->st.parts[i]? = some (a,part)->a+l.length=s.ak.length->(∀ (j:Nat) (p:Pos) (d:cR),l[j]? = some p->s.ak[a+j]? = some d->Ma d p) ->
 Cy st.nodes l a i/\(vQ s fs l a part=[]->oP st.nodes l i c0=none)/\(vQ s fs l a part≠[]->∃c,oP st.nodes l i c0=some c/\c.ag=(tG (aG fs) (vQ s fs l a part)).getD aO)
 | [],a,i,part,c0,av,_,_,_=>absurd rfl av
 | p::l,a,i,part,c0,_,hp,aX,lh=>by
  rw [length_cons] at aX;have mF:a<s.ak.length:=by omega
  have hd:=gE mF;obtain ⟨n,hn,eH,k1,k2,k3,k4,k5⟩:=h.ask hs hf hp hd (lh 0 p _ rfl (by rw [Nat.add_zero];exact hd));have adP:∀ (j:Nat) (p':Pos) (d:cR),l[j]? = some p'->s.ak[a+1+j]? = some d->Ma d p':=fun j p' d h1 h2=>lh (j+1) p' d h1 (by rw [show a+(j+1)=a+1+j by omega];exact h2)
  have ev:oP st.nodes (p::l) i c0=(kd p n).bind fun d=>oP st.nodes l d.child d:=by
   show (match st.nodes[i]? with | none=>none | some n=>(kd p n).bind fun d=>oP st.nodes l d.child d)=_;rw [hn]
  show (∃n,st.nodes[i]? = some n/\n.aj=a/\IL p n/\p.dm<(n.lists.length:Int)/\1<=n.lists.length/\∀d,kd p n=some d->Cy st.nodes l (a+1) d.child)/\_;rw [ev];show _/\(vQ s fs l (a+1) (part.filter (under s fs p a))=[]->_)/\(vQ s fs l (a+1) (part.filter (under s fs p a))≠[]->∃c:Cl,_=some c/\c.ag=(tG (aG fs) (vQ s fs l (a+1) (part.filter (under s fs p a)))).getD aO);by_cases he:part.filter (under s fs p a)=[]
  .rw [k4 he,he,XE];exact ⟨⟨n,hn,eH,k1,k2,k3,fun d o8=>by rw [k4 he] at o8;cases o8⟩,fun _=>rfl,fun hh=>absurd rfl hh⟩
  .obtain ⟨c,k,hc,xl⟩:=k5 he;rw [hc];have h2:=xl.2;by_cases hl:l=[]
   .subst hl;simp only [length_nil] at aX;rw [if_pos (decide_eq_true (by omega))] at h2;refine ⟨⟨n,hn,eH,k1,k2,k3,fun d o8=>trivial⟩,fun hh=>absurd hh he,fun _=>⟨c,rfl,h2.2⟩⟩
   .rw [if_neg (by
     intro hh;have:=of_decide_eq_true hh
     exact hl (length_eq_zero_iff.1 (by omega)))] at h2
    obtain ⟨m1,m2,m3⟩:=h.along hs hf l (a+1) c.child _ c hl h2.2 (by omega) adP;refine ⟨⟨n,hn,eH,k1,k2,k3,fun d o8 => ?_⟩,m2,m3⟩;rw [hc] at o8;injection o8 with o8
    subst o8;exact m1
theorem Xu (hf:gK s fs):∀ (l:List Pos) (a:Nat) (part:LN) (way:List Pos),way.drop a=l->a+l.length=s.ak.length->(∀x∈part,x<fs.length)->vQ s fs l a part=part.filter fun i=>(range' a l.length).all (PY s (ei fs i) way)
 | [],a,part,way,hw,hl,hx=>by
  show part=_;exact (filter_eq_self.2 (fun i _=>rfl)).symm
 | p::l,a,part,way,hw,hl,hx=>by
  rw [length_cons] at hl;have mF:a<s.ak.length:=by omega
  have AB:way[a]? = some p:=by
   have:(way.drop a)[0]? = some p:=by rw [hw];rfl
   rw [getElem?_drop,Nat.add_zero] at this;exact this
  have hw':way.drop (a+1)=l:=by
   have:=congrArg (drop 1) hw;rw [drop_drop] at this;exact this
  show vQ s fs l (a+1) (part.filter (under s fs p a))=_;rw [Xu hf l (a+1) _ way hw' (by omega) (fun x h=>hx x (mem_filter.1 h).1),filter_filter];refine filter_congr (fun i hi => ?_);rw [length_cons,range'_succ,all_cons,Bool.and_comm]
  congr 1
  have hk:=CR hf (hx i hi) mF;unfold PY under;rw [gE mF,AB,hk];rfl
theorem abw (hf:gK s fs) {way:List Pos} (hw:way.length=s.ak.length):vQ s fs way 0 (range fs.length)=ET s (aG fs) way fs.length:=by
 rw [Xu hf way 0 _ way (by rw [drop_zero]) (by omega) (fun x h=>mem_range.1 h)];unfold ET Z' a0P;rw [<-List.range_eq_range'];rfl
end
def XO (most:Nat) (g:Rec):Prop:=∀part st r,g part st=some r->st.nodes.length<=most->r.1.nodes.length<=most
theorem Y1 {ps:List (LN×Ag)} {f:Option Rec} {most:Nat} {at_:Nat} {lifts:List (List LN)}:XO most (fR ps lifts most f at_):=by
 intro part st r h hn;unfold fR at h;split at h
 .injection h with h
  subst h;exact hn
 .obtain ⟨q,hq,h⟩:=Option.bind_eq_some_iff.1 h;obtain ⟨x,hx,h⟩:=Option.bind_eq_some_iff.1 h;split at h
  .rename_i ae;injection h with h
   subst h;dsimp only;rw [aS];exact ae
  .cases h
theorem a8h {ps:List (LN×Ag)} {lifts:List (List LN)} {most nd:Nat}:∀ {d:Nat},XO most (visit ps lifts most nd d)
 | 0=>Y1 (f:=none)
 | d+1=>Y1 (f:=some (visit ps lifts most nd d))
theorem EW {s:aW} {fs:List Fa} {most:Nat} {ns:List aI} (h:dQ s fs most=some ns):ns.length<=most:=by
 unfold dQ at h;split at h
 .injection h with h;subst h;exact aZ _
 .obtain ⟨r,hr,rfl⟩:=Option.map_eq_some_iff.1 h;exact a8h _ _ _ hr (aZ _)
theorem F8 {s:aW} {most:Nat} {ns:List aI} (h:dQ s [] most=some ns):ns=[]:=by
 unfold dQ at h;rw [if_pos rfl] at h;injection h with h
 exact h.symm
structure M5 (s:aW) (fs:List Fa) (ns:List aI):Prop where
 yN:EZ s.ak.length ns
 small:∀n∈ns,n.lists.length<=4/\∀l∈n.lists,l.length<=1000
 tree:ns≠[]->CW ns (s.ak.length-1) (ns.length-1)
 Rz:(pM s.ak.length ns).length=fs.length
 way:∀way:List Pos,way.length=s.ak.length->Qa s way->(ns≠[]->Cy ns way 0 (ns.length-1))/\(ET s (aG fs) way fs.length=[]->rK ns way=none)/\(ET s (aG fs) way fs.length≠[]->∃c,rK ns way=some c/\c.ag=(tG (aG fs) (ET s (aG fs) way fs.length)).getD aO)
theorem Ry {s:aW} {fs:List Fa} {most:Nat} {ns:List aI} (hs:dO s) (hf:gK s fs) (h:dQ s fs most=some ns):M5 s fs ns:=by
 by_cases av:fs=[]
 .subst av;have:=F8 h;subst this;refine ⟨⟨fun i n hn=>by simp at hn,fun n hn=>by simp at hn,fun j hj=>by simp at hj,fun n hn=>(by cases hn)⟩,fun n hn=>(by cases hn),fun hh=>absurd rfl hh,rfl,fun way _ _=>⟨fun hh=>absurd rfl hh,fun _ => ?_,fun hh=>absurd rfl hh⟩⟩;unfold rK;rw [if_pos rfl]
 .obtain ⟨st,rfl,fM⟩:=PH hs av h;have ej:=hs.n1;have sU:=fM.pos;have eE:st.nodes≠[]:=fun e=>by rw [e] at sU;simp at sU
  refine ⟨fM.yN,fun n hn => ?_,fun _=>fM.a0q hs _ _ 0 _ fM.top (by omega),fM.Rz hs hf,fun way hl hw => ?_⟩
  .obtain ⟨i,hi,rfl⟩:=getElem_of_mem hn;obtain ⟨_,h2,h3⟩:=fM.lists hs (gE hi);exact ⟨h2,fun l hl=>aT (h3 l hl) (by omega)⟩
  .obtain ⟨k1,k2,k3⟩:=fM.along hs hf way 0 (st.nodes.length-1) (range fs.length) cO (fun e=>by rw [e] at hl;simp at hl;omega) fM.top (by omega) (fun j p d h1 h2=>hw j d p (by rw [Nat.zero_add] at h2;exact h2) h1);rw [abw hf hl] at k2 k3;unfold rK;rw [if_neg eE];exact ⟨fun _=>k1,k2,k3⟩
theorem M5.nodes {s:aW} {fs:List Fa} {nds:List Nd} (h:M5 s fs (nds.map az)):(∀n∈nds,za n)/\∀n∈nds,∀l∈n.ls,l.cs.length<=1000:=by
 have H:∀n∈nds,n.ls.length<=4/\∀l∈n.ls,l.cs.length<=1000:=fun n hn=>by
  obtain ⟨h1,h2⟩:=h.small (az n) (mem_map_of_mem hn);refine ⟨?_,fun l hl=>h2 l.cs (mem_map_of_mem hl)⟩;have:(az n).lists.length=n.ls.length:=by unfold az;rw [lM]
  omega
 exact ⟨fun n hn=>⟨(H n hn).1,fun l hl=>aT ((H n hn).2 l hl) (by omega)⟩,fun n hn=>(H n hn).2⟩
theorem Mh (a:UInt8) (h:lW a):pS ⟨#[a]⟩:=⟨(show (1:Nat)<=1 by decide),(show (1:Nat)<=12 by decide),fun i hi=>by
 match i,hi with
 | 0,_=>exact h⟩
theorem XQ (a b c:UInt8) (h:lW a) (h1:lW b) (h2:lW c):pS ⟨#[a,b,c]⟩:=⟨(show (1:Nat)<=3 by decide),(show (3:Nat)<=12 by decide),fun i hi=>by
 match i,hi with
 | 0,_=>exact h
 | 1,_=>exact h1
 | 2,_=>exact h2⟩
theorem Iy (a:UInt8):zb ⟨#[a]⟩:=⟨(show (1:Nat)<=1 by decide),(show (1:Nat)<=16 by decide)⟩
theorem Qf (a b:UInt8):Op.bytesLess (⟨#[a]⟩:ByteArray).toList (⟨#[b]⟩:ByteArray).toList=Op.bytesLess [a] [b]:=by
 rw [Lib.toList_data,Lib.toList_data]
theorem YH (a b:UInt8) (h:Op.bytesLess [a] [b]=true):mT [⟨#[a]⟩,⟨#[b]⟩]:=by
 refine ⟨fun s hs => ?_,fun i hi => ?_⟩
 .rcases mem_cons.1 hs with rfl | hs
  .exact Iy a
  .rw [mem_singleton.1 hs];exact Iy b
 .match i,hi with
  | 0,_=>exact (Qf a b).trans h
theorem abx (a b c:UInt8) (h:Op.bytesLess [a] [b]=true) (h1:Op.bytesLess [b] [c]=true):mT [⟨#[a]⟩,⟨#[b]⟩,⟨#[c]⟩]:=by
 refine ⟨fun s hs => ?_,fun i hi => ?_⟩
 .rcases mem_cons.1 hs with rfl | hs
  .exact Iy a
  .rcases mem_cons.1 hs with rfl | hs
   .exact Iy b
   .rw [mem_singleton.1 hs];exact Iy c
 .match i,hi with
  | 0,_=>exact (Qf a b).trans h
  | 1,_=>exact (Qf b c).trans h1
theorem a0g {a b:ByteArray} (h:a.size≠b.size\/a.data[0]? ≠ b.data[0]?):a≠b:=fun e=>by subst e;rcases h with h | h<;>exact h rfl
theorem XH (t:jv) (h:t.up=[]):tM t 0:=by
 refine ⟨fun _=>h,fun h0=>absurd h0 (by decide),by decide,fun n hn => ?_,fun i hi => ?_⟩
 .rw [h] at hn;cases hn
 .omega
theorem Q4 (B:Nat):dO (jL B):=by
 refine ⟨(show (1:Nat)<=2 by decide),(show (2:Nat)<=16 by decide),fun k hk => ?_,fun i k hk hi => ?_,(show (1:Nat)<=1 by decide),(show (1:Nat)<=3 by decide),fun k hk => ?_,fun i k hk hi => ?_⟩
 .match k,hk with
  | 0,_ =>
   refine ⟨Mh 100 (by unfold lW;decide),(show (1:Nat)<=1 by decide),(show (1:Nat)<=4 by decide),fun k hk => ?_,fun i k hk hi => ?_⟩
   .match k,hk with
    | 0,_=>exact ⟨Mh 116 (by unfold lW;decide),(show (1:Nat)<=2 by decide),(show (2:Nat)<=200 by decide),YH 97 98 (by decide),XH _ rfl⟩
   .match i,k,hk,hi with
    | i,0,_,hi=>omega
  | 1,_ =>
   refine ⟨Mh 101 (by unfold lW;decide),(show (1:Nat)<=2 by decide),(show (2:Nat)<=4 by decide),fun k hk => ?_,fun i k hk hi => ?_⟩
   .match k,hk with
    | 0,_ =>
     refine ⟨XQ 108 111 119 (by unfold lW;decide) (by unfold lW;decide) (by unfold lW;decide),(show (1:Nat)<=3 by decide),(show (3:Nat)<=200 by decide),abx 120 121 122 (by decide) (by decide),?_⟩;show tM _ (2:Int);refine ⟨fun h=>absurd h (by decide),fun _=>rfl,by decide,fun n hn => ?_,fun i hi => ?_⟩
     .revert n
      show ∀n∈([0,0,1]:List Int),0<=n/\n<2;decide
     .show (i:Int)∈([0,0,1]:List Int);have:i=0\/i=1:=by omega
      rcases this with rfl | rfl<;>decide
    | 1,_=>exact ⟨XQ 116 111 112 (by unfold lW;decide) (by unfold lW;decide) (by unfold lW;decide),(show (1:Nat)<=2 by decide),(show (2:Nat)<=200 by decide),YH 112 113 (by decide),XH _ rfl⟩
   .match i,k,hk,hi with
    | 0,1,_,_=>exact a0g (.inr (show (#[108,111,119]:Array UInt8)[0]? ≠ (#[116,111,112]:Array UInt8)[0]? by decide))
    | i,0,_,hi=>omega
    | i+1,1,_,hi=>omega
 .match i,k,hk,hi with
  | 0,1,_,_=>exact a0g (.inr (show (#[100]:Array UInt8)[0]? ≠ (#[101]:Array UInt8)[0]? by decide))
  | i,0,_,hi=>omega
  | i+1,1,_,hi=>omega
 .match k,hk with
  | 0,_=>exact Mh 109 (by unfold lW;decide)
 .match i,k,hk,hi with
  | i,0,_,hi=>omega
def tR (v:Int):Ag:=⟨1,v,v,v,0,0,0,0,0,0⟩
def PX:List (LN×Ag):=[([0,0],tR 3),([1,1],tR (-4)),([0,2],tR 5)]
def pN:List (LN×Ag):=[([0,0],tR 3),([0,2],tR 5),([1,1],tR (-4))]
theorem Fc (B:Nat) {x y:UInt8} {p q v:Nat} {r:Rw} (i j:Nat) (ht:r.aQ=[⟨#[x]⟩,⟨#[y]⟩]) (hv:r.dP.length=1) (h1:([⟨#[97]⟩,⟨#[98]⟩]:List ByteArray)[i]? = some ⟨#[x]⟩) (h2:([⟨#[120]⟩,⟨#[121]⟩,⟨#[122]⟩]:List ByteArray)[j]? = some ⟨#[y]⟩):ju (jL B) r [i,j]:=by
 refine ⟨rfl,by rw [ht];rfl,hv,fun a d t k hd sP hk => ?_⟩;rw [ht] at sP
 match a with
 | 0=>injection hd with hd;injection sP with sP;injection hk with hk;subst hd sP hk;exact h1
 | 1=>injection hd with hd;injection sP with sP;injection hk with hk;subst hd sP hk;exact h2
 | a+2=>cases hk
theorem Xk (B:Nat):qI (jL B) (yU B):=by
 refine ⟨Q4 B,(show (3:Nat)<=300 by decide),fun r hr => ?_⟩;rcases mem_cons.1 hr with rfl | hr
 .exact ⟨_,Fc B (p:=0) (q:=0) (v:=0) 0 0 rfl rfl rfl rfl⟩
 .rcases mem_cons.1 hr with rfl | hr
  .exact ⟨_,Fc B (p:=0) (q:=0) (v:=0) 1 1 rfl rfl rfl rfl⟩
  .rcases mem_cons.1 hr with rfl | hr
   .exact ⟨_,Fc B (p:=0) (q:=0) (v:=0) 0 2 rfl rfl rfl rfl⟩
   .cases hr
theorem a0o (B:Nat):rI (jL B) (yU B) PX:=by
 refine ⟨[⟨none,[0,0],0,tR 3⟩,⟨none,[1,1],0,tR (-4)⟩,⟨none,[0,2],0,tR 5⟩],⟨rfl,fun i r f hr hf => ?_⟩,rfl⟩
 match i with
 | 0=>injection hr with hr;injection hf with hf;subst hr hf;exact ⟨Fc B (p:=0) (q:=0) (v:=0) 0 0 rfl rfl rfl rfl,rfl⟩
 | 1=>injection hr with hr;injection hf with hf;subst hr hf;exact ⟨Fc B (p:=0) (q:=0) (v:=0) 1 1 rfl rfl rfl rfl,rfl⟩
 | 2=>injection hr with hr;injection hf with hf;subst hr hf;exact ⟨Fc B (p:=0) (q:=0) (v:=0) 0 2 rfl rfl rfl rfl,rfl⟩
 | i+3=>cases hr
theorem a9h {B:Nat} {ps qs:List (LN×Ag)} (h:rI (jL B) (yU B) ps) (hp:qs.Perm ps) (hs:xC qs):qs=pN:=by
 have e:=F4 (Q4 B) h (a0o B);subst e;have qu:PX.Perm pN:=(List.Perm.swap _ _ _).cons _;refine List.Perm.eq_of_pairwise (le:=fun (a b:LN×Ag)=>bP a.1 b.1<=0) (fun a b ha hb h1 h2 => ?_) hs ?_ (hp.trans qu)
 .have h3:a.1=b.1:=Fm (by rw [xy] at h2;omega);have Dj:a∈pN:=(hp.trans qu).mem_iff.1 ha;simp only [pN,mem_cons,not_mem_nil,or_false] at Dj hb;rcases Dj with rfl | rfl | rfl<;>rcases hb with rfl | rfl | rfl<;>first | rfl | (exfalso;revert h3;decide)
 .unfold pN;refine pairwise_cons.2 ⟨fun b hb => ?_,pairwise_cons.2 ⟨fun b hb => ?_,pairwise_singleton _ _⟩⟩
  .rcases mem_cons.1 hb with rfl | hb
   .decide
   .rw [mem_singleton.1 hb];decide
  .rw [mem_singleton.1 hb];decide
theorem Yd:ki [] pN=some pN:=by kernel_rfl
theorem aaL (B:Nat) {l:List Fa} (hl:l.map pl=pN):∃ns,dQ (jL B) l 99=some ns/\ns≠[]:=by
 have h3:l.length=3:=by have:=congrArg length hl;rw [lM] at this;exact this
 unfold dQ;rw [if_neg (fun e=>by rw [e] at h3;cases h3),show aG l=pN from hl,h3];obtain ⟨r,hr⟩:∃r,(visit pN ((jL B).ak.map gl) 99 (jL B).ak.length ((jL B).ak.length-1) (range 3) ⟨[],[]⟩)=some r:=Option.isSome_iff_exists.1 (by kernel_rfl);have ht:=MV hr;rw [hr];exact ⟨r.1.nodes,rfl,fun e=>by rw [e] at ht;simp at ht⟩
def Mf:List Pos:=[⟨-1,0⟩,⟨1,0⟩]
theorem a7E (B:Nat):ET (jL B) pN Mf 3=[0,2]:=by kernel_rfl
theorem a5Z:tG pN [0,2]=some ⟨2,-1,-4,3,0,0,0,0,0,0⟩:=by kernel_rfl
theorem Z9 (B:Nat):Qa (jL B) Mf:=fun i d p hd hp=>by
 match i with
 | 0=>injection hd with hd;injection hp with hp;subst hd hp;exact .inl ⟨rfl,rfl⟩
 | 1=>injection hd with hd;injection hp with hp;subst hd hp;exact .inr ⟨1,0,(show (1:Nat)<2 by decide),rfl,rfl,(show (0:Nat)<2 by decide)⟩
 | i+2=>cases hp
structure mP (s:aW) (fs:List Fa) (ns:List aI) (most ga:Nat) (A An:OA) (c cn:Nat) (ys:List Fa) (nds:List Nd) (w:World):Prop where
 eF:dO s
 ok:M5 s fs ns
 box:aa w ga 160 (im A ys.length c s.aU.length An nds.length cn most)
 R6:ep w w.heap.size A ys
 keys:ys.map Fa.keys=s.ak.map dK
 PE:jH w w.heap.size An nds
 eq:nds.map az=ns
 len:ns.length<=20000
section
variable {s:aW} {fs:List Fa} {ns:List aI} {most ga:Nat} {A An:OA} {c cn:Nat} {ys:List Fa} {nds:List Nd} {w w':World}
theorem mP.below (h:mP s fs ns most ga A An c cn ys nds w) (hb:Below w.heap.size w w'):mP s fs ns most ga A An c cn ys nds w' :=
 ⟨h.eF,h.ok,h.box.under hb,(h.R6.below hb).more hb.size,h.keys,(h.PE.below hb).more hb.size,h.eq,h.len⟩
theorem mP.nx (h:mP s fs ns most ga A An c cn ys nds w):ys.length=s.ak.length:=by
 have:=congrArg length h.keys;rw [lM,lM] at this;exact this
theorem mP.key (h:mP s fs ns most ga A An c cn ys nds w) {k:Nat} {l:LN} (hl:(ys.map Fa.keys)[k]? = some l):∃d,s.ak[k]? = some d/\l=dK d:=by
 rw [h.keys,getElem?_map] at hl;obtain ⟨d,hd,e⟩:=Option.map_eq_some_iff.1 hl;exact ⟨d,hd,e.symm⟩
theorem mP.short (h:mP s fs ns most ga A An c cn ys nds w):∀x∈ys,x.keys.length<=1000:=fun x hx=>by
 obtain ⟨k,hk,rfl⟩:=getElem_of_mem hx;obtain ⟨d,hd,e⟩:=h.key (k:=k) (l:=ys[k].keys) (by rw [getElem?_map,gE hk];rfl);rw [e,xK];have:=(ze h.eF hd).n2;omega
theorem mP.mU (h:mP s fs ns most ga A An c cn ys nds w):nds.length<=20000:=by
 have:=h.len;rw [<-h.eq,lM] at this;exact this
theorem mP.a7C (h:mP s fs ns most ga A An c cn ys nds w) {Ap:OA} {cp:Nat} {way:List Pos} (hp:Row w w.heap.size Ap (way.flatMap Fv)) (aX:way.length=s.ak.length) (a3Q:Qa s way) :
 Calls Tryz.prog 23 #[.pointer (some ⟨ga,0,none⟩),.slice Ap way.length cp] w (N5 (rK ns way) w):=by
 have hx:=h.nx;have hn:=h.eF;have hf:=h.mU;have db:=h.ok;have we:=h.eq;subst we;obtain ⟨k1,k2⟩:=db.nodes;obtain ⟨m1,_⟩:=db.way way aX a3Q;refine aak ga A An Ap c s.aU.length cn cp most ys nds way w h.box h.R6 h.PE (by rw [hx];exact hn.n1) (by rw [hx];exact hn.n2) hn.m1 hn.m2 (by omega) k1 h.short hp (by rw [hx];exact aX) (fun k l p hl hpk => ?_) (fun av => ?_)
 .obtain ⟨d,hd,rfl⟩:=h.key hl;rcases a3Q k d p hd hpk with ⟨e1,e2⟩ | ⟨t,q,ht,e1,e2,e3⟩
  .exact .inl ⟨by omega,e2⟩
  .exact .inr ⟨t,q,_,e1,e2,by rw [gE (by rw [xK];exact ht),CX],e3⟩
 .have:=m1 (fun e=>av (map_eq_nil_iff.1 e));rw [lM] at this;exact this
theorem mP.facts (h:mP s fs ns most ga A An c cn ys nds w) (ie:fs.length<=4000):Calls Tryz.prog 45 #[.pointer (some ⟨ga,0,none⟩),.int .i64 4000] w (ID (pM s.ak.length ns) w):=by
 have hx:=h.nx;have hn:=h.eF;have hf:=h.mU;have db:=h.ok;have we:=h.eq;subst we;obtain ⟨k1,k2⟩:=db.nodes
 have:=a9i ga A An c s.aU.length cn most 4000 ys nds w h.box h.R6 h.PE (by rw [hx];exact hn.n1) (by rw [hx];exact hn.n2) hn.m1 hn.m2 (by omega) k1 k2 h.short (by rw [hx];exact db.yN) (fun av=>by
  have:=db.tree (fun e=>av (map_eq_nil_iff.1 e));rw [lM] at this;rw [hx]
  exact this) (by omega) (by rw [hx,db.Rz];exact ie)
 rw [hx] at this;exact this
end
def a9G (s:aW) (fs:List Fa) (most:Nat) (w:World) (e:Ending) (w':World):Prop :=
 (∃ (ns:List aI) (ga:Nat) (A An:OA) (c cn:Nat) (ys:List Fa) (nds:List Nd),e = .returned (.tuple #[.pointer (some ⟨ga,0,none⟩),.int .i64 0])/\dQ s fs most=some ns/\mP s fs ns most ga A An c cn ys nds w'/\Below w.heap.size w w') \/
 (dQ s fs most=none/\e = .returned (.tuple #[.pointer none,.int .i64 7])/\Below w.heap.size w w')
theorem a5p (s:aW) (most:Nat) (Af:OA) (cf:Nat) (fs:List Fa) (w:World) (h:gW w w.heap.size s) (hf:dG w w.heap.size Af fs) (hs:dO s) (db:gK s fs) (hm:most<=20000) :
 Calls Tryz.prog 9 #[.agg (cj s),.int .i64 (most:Nat),.slice Af fs.length cf] w (a9G s fs most w):=by
 refine (PN s most Af cf fs w h hf (II hs db (by omega))).mono ?_;rintro e w' ⟨h1,h2⟩;cases hc:dQ s fs most with
 | none =>
  obtain ⟨he,hb⟩:=h2 hc;exact .inr ⟨hc,he,hb⟩
 | some ns =>
  obtain ⟨ga,A,An,c,cn,ys,nds,he,aJ,hi,hk,hn,hp,hb,_⟩:=h1 ns hc;have KW:=EW hc;exact .inl ⟨ns,ga,A,An,c,cn,ys,nds,he,hc,⟨hs,Ry hs db hc,aJ,hi,hk,hn,hp,by omega⟩,hb⟩
def a8v (w:World) (e:Ending) (w':World):Prop:=∃ (A:OA) (c:Nat) (l:List Fa),e = .returned (.tuple #[.slice A l.length c,.int .i64 0])/\l.map pl=pN/\dG w' w'.heap.size A l/\Below w.heap.size w w'
theorem aaJ (B:Nat) (A:OA) (c:Nat) (w:World) (h:gW w w.heap.size (jL B)) (hr:j6 w w.heap.size A (yU B)) :
 Calls Tryz.prog 8 #[.agg (cj (jL B)),.slice A 3 c] w (a8v w):=by
 refine (XV (jL B) A (yU B) c w h hr (Xk B) (show (3:Nat)<=64 by decide)).mono ?_;rintro e w' ⟨ps,qs,h1,h2,h3,h4,h5⟩;have hq:=a9h h1 h2 h3;subst hq;unfold EY at h4;rw [Yd] at h4;obtain ⟨v,l,he,hl,ho,_⟩:=h4;obtain ⟨A',c',rfl⟩:=ho.form;exact ⟨A',c',l,he,hl,ho.uM,h5⟩
theorem a8I (B:Nat) {l:List Fa} (hl:l.map pl=pN):gK (jL B) l:=by
 have hp:([([0,0],tR 3),([0,2],tR 5),([1,1],tR (-4))]:List (LN×Ag)).Perm PX:=List.Perm.cons _ (List.Perm.swap _ _ _);refine (a9S (Xk B) (show (3:Nat)<=64 by decide) ?_ (a0o B) hp ?_ Yd hl ?_).1
 .intro r hr x hx;unfold fit;rcases mem_cons.1 hr with rfl | hr
  .rcases mem_cons.1 hx with rfl | hx
   .omega
   .cases hx
  .rcases mem_cons.1 hr with rfl | hr
   .rcases mem_cons.1 hx with rfl | hx
    .omega
    .cases hx
   .rcases mem_cons.1 hr with rfl | hr
    .rcases mem_cons.1 hx with rfl | hx
     .omega
     .cases hx
    .cases hr
 .unfold xC;refine List.Pairwise.cons (fun x hx => ?_) (List.Pairwise.cons (fun x hx => ?_) (List.Pairwise.cons (fun x hx=>by cases hx) List.Pairwise.nil))
  .rcases mem_cons.1 hx with rfl | hx
   .exact (show bP [0,0] [0,2]<=0 by decide)
   .rcases mem_cons.1 hx with rfl | hx
    .exact (show bP [0,0] [1,1]<=0 by decide)
    .cases hx
  .rcases mem_cons.1 hx with rfl | hx
   .exact (show bP [0,2] [1,1]<=0 by decide)
   .cases hx
 .intro x hx
  have hw:∀v:Int,-5<=v->v<=5->sD (tR v):=fun v h1 h2=>⟨(show (1:Int)<=1000000000 by decide),fun i hi=>by
   rcases i with _ | _ | _ | i
   .exact ⟨show -1000000000000<=v by omega,show v<=1000000000000 by omega⟩
   .exact ⟨show (-1000000000000:Int)<=0 by decide,show (0:Int)<=1000000000000 by decide⟩
   .exact ⟨show (-1000000000000:Int)<=0 by decide,show (0:Int)<=1000000000000 by decide⟩
   .omega⟩
  rcases mem_cons.1 hx with rfl | hx
  .exact hw 3 (by decide) (by decide)
  .rcases mem_cons.1 hx with rfl | hx
   .exact hw (-4) (by decide) (by decide)
   .rcases mem_cons.1 hx with rfl | hx
    .exact hw 5 (by decide) (by decide)
    .cases hx
def a5M (s:aW) (fs:List Fa) (w:World) (e:Ending) (w':World):Prop:=∃ (ns:List aI) (ga:Nat) (A An:OA) (c cn:Nat) (ys:List Fa) (nds:List Nd),e = .returned (.tuple #[.pointer (some ⟨ga,0,none⟩),.int .i64 0])/\mP s fs ns 99 ga A An c cn ys nds w'/\Below w.heap.size w w'
theorem a6a (B:Nat) (Af:OA) (cf:Nat) (l:List Fa) (w:World) (h:gW w w.heap.size (jL B)) (hf:dG w w.heap.size Af l) (hl:l.map pl=pN) :
 Calls Tryz.prog 9 #[.agg (cj (jL B)),.int .i64 99,.slice Af l.length cf] w (a5M (jL B) l w):=by
 refine (a5p (jL B) 99 Af cf l w h hf (Q4 B) (a8I B hl) (by decide)).mono ?_;rintro e w' (⟨ns,ga,A,An,c,cn,ys,nds,he,hc,br,hb⟩ | ⟨hc,_⟩)
 .exact ⟨ns,ga,A,An,c,cn,ys,nds,he,br,hb⟩
 .obtain ⟨ns,h1,_⟩:=aaL B hl;rw [hc] at h1;cases h1
def abC (w:World) (e:Ending) (w':World):Prop:=e = .returned (.tuple #[.agg #[.int .i64 2,.int .i64 (-1),.int .i64 (-4),.int .i64 3,.int .i64 0,.int .i64 0,.int .i64 0,.int .i64 0,.int .i64 0,.int .i64 0],.int .i64 0])/\Below w.heap.size w w'
theorem a65 {B:Nat} {l:List Fa} {ns:List aI} {ga:Nat} {A An:OA} {c cn:Nat} {ys:List Fa} {nds:List Nd} {w:World} (h:mP (jL B) l ns 99 ga A An c cn ys nds w) (hl:l.map pl=pN) {Ap:OA} {cp:Nat} (hp:Row w w.heap.size Ap [.int .i64 (-1),.int .i64 0,.int .i64 1,.int .i64 0]) :
 Calls Tryz.prog 23 #[.pointer (some ⟨ga,0,none⟩),.slice Ap 2 cp] w (abC w):=by
 have dR:l.length=3:=by have:=congrArg length hl;rw [lM] at this;exact this
 refine (h.a7C (way:=Mf) (Ap:=Ap) (cp:=cp) hp rfl (Z9 B)).mono ?_;rintro e w' ⟨he,hb⟩;obtain ⟨_,_,h3⟩:=h.ok.way Mf rfl (Z9 B);have cM:aG l=pN:=hl;rw [cM,dR,a7E,a5Z] at h3;obtain ⟨cl,hc,ha⟩:=h3 (by decide);rw [hc] at he;have he':e = .returned (.tuple #[.agg (bj cl.ag),.int .i64 0]):=he;rw [ha] at he';exact ⟨he',hb⟩
theorem a6Q (w:World):Calls Tryz.prog 7 #[] w (eW (fun r=>r=true) w):=by
 have HR:=kp (fun r w' h hb=>eW.mono (P:=fun r=>r=true) (w:=w) (r:=r) (w':=w') h hb);have H1:=kp (a7X w);have H2:=kp (fun B A c W h hr=>aaJ B A c W h hr);have H3:=kp (fun B Af cf l W h hf hl=>a6a B Af cf l W h hf hl);generalize eW (fun r=>r=true) w=Q at *;obtain ⟨B,hB⟩:∃B,w.heap.size=B:=⟨_,rfl⟩
 go_enter Tryz.func7,Tryz.ntmps7;go_wp2_with fail;refine H1.o.mono ?_;rintro e w1 ⟨rfl,gv,eC,ax⟩;rw [hB] at gv eC;have OR:=kp (H2.o B (some ⟨B+16,0,none⟩) 3);have V4:=kp (H3.o B);have H4s:=kp (fun l ns ga A An c cn ys nds W (h:mP (jL B) l ns 99 ga A An c cn ys nds W)=>a65 h);rw [hB];obtain ⟨s,hs⟩:∃s,jL B=s:=⟨_,rfl⟩
 obtain ⟨rw',nB⟩:∃r,yU B=r:=⟨_,rfl⟩
 rw [hs] at gv OR V4 H4s ⊢;rw [nB] at eC OR;unfold cj at OR V4 ⊢;generalize da:s.ak.length=nd at *;generalize ma:s.aU.length=nm at *;generalize hsA:s.A=sA at *;generalize hsc:s.c=sc at *;generalize adQ:s.Am=V5 at *;generalize adR:s.cm=V6 at *;clear da ma hsA hsc adQ adR;have H8:=(aq w1.heap.size w1).alloc (ah _) (.cells #[.slice sA nd sc,.slice V5 nm V6] 25);have uz:=kp (aa.new w1 25 #[.slice sA nd sc,.slice V5 nm V6]);have aM:=kp (ax.trans (H8.mono ax.size));have iV:=kp ((gv.below H8).more H8.size);have zh:=kp ((eC.below H8).more H8.size);generalize dk:w1.alloc (.cells #[.slice sA nd sc,.slice V5 nm V6] 25)=W1 at *;clear H8 gv eC ax;have UW:=kp (OR.o W1 iV.o zh.o);generalize OS:(some ⟨B+16,0,none⟩:OA)=Ar at *;clear OS;obtain ⟨z0,z1,_,_⟩:=uz.o.two;go_wp2_with fail;refine UW.o.mono ?_;clear dk;generalize w1.heap.size=g1 at *;rintro e w2 ⟨A2,c2,l2,rfl,mZ,yh,aH⟩;have aF:=aR aM aH;have GN:=bu uz aH;have o9:=kp ((iV.o.below aH).more aH.size);have UX:=kp (V4.o A2 c2 l2 w2 o9.o yh mZ);have HH4:=kp (H4s.o l2);have Hl2:=kp mZ;generalize eZ:l2.length=n2 at *;clear aH z0 z1 yh eZ mZ;obtain ⟨z0,z1,_,_⟩:=GN.o.two;go_wp2_with fail;refine UX.o.mono ?_;rintro e w3 ⟨ns,ga,A3,An3,c3,cn3,ys3,adS,rfl,br,aN⟩;have bC:=aR aF aN;clear z0 z1;have cq:=(aq w3.heap.size w3).alloc (ah _) (.cells #[.int .i64 (-1),.int .i64 0,.int .i64 1,.int .i64 0] 69);have HP4:=kp (qJ (aa.new w3 69 #[.int .i64 (-1),.int .i64 0,.int .i64 1,.int .i64 0]));have adT:=kp (br.below cq);have bH:=aR bC cq;clear cq br aN;generalize qB:w3.alloc (.cells #[.int .i64 (-1),.int .i64 0,.int .i64 1,.int .i64 0] 69)=W4 at *;have HH5:=kp (HH4.o ns ga A3 An3 c3 cn3 ys3 adS W4 adT.o Hl2.o (Ap:=some ⟨w3.heap.size,0,none⟩) (cp:=2) HP4.o);go_wp2_with fail;refine HH5.o.mono ?_;clear qB;rintro e w5 ⟨rfl,cV⟩;have eR:=(aq w5.heap.size w5).alloc (ah _) (.cells zA 54);have HG6:=kp (aa.new w5 54 zA);have eI:=kp ((bH.o.trans (cV.mono bH.o.size)).trans (eR.mono (aT bH.o.size cV.size)));have OT:=kp (aT bH.o.size cV.size);clear eR cV;generalize lL:w5.alloc (.cells zA 54)=W6 at *;have OU:=kp (show aa (aK W6 w5.heap.size 0 [.int .i64 2,.int .i64 (-1),.int .i64 (-4),.int .i64 3,.int .i64 0,.int .i64 0,.int .i64 0,.int .i64 0,.int .i64 0,.int .i64 0]) w5.heap.size 54 #[.int .i64 2,.int .i64 (-1),.int .i64 (-4),.int .i64 3,.int .i64 0,.int .i64 0,.int .i64 0,.int .i64 0,.int .i64 0,.int .i64 0] from eO HG6.o [.int .i64 2,.int .i64 (-1),.int .i64 (-4),.int .i64 3,.int .i64 0,.int .i64 0,.int .i64 0,.int .i64 0,.int .i64 0,.int .i64 0] rfl);have fE:=kp (eU OT.o [.int .i64 2,.int .i64 (-1),.int .i64 (-4),.int .i64 3,.int .i64 0,.int .i64 0,.int .i64 0,.int .i64 0,.int .i64 0,.int .i64 0] W6 0 eI.o);obtain ⟨uD,vD⟩:=aa.eS HG6.o;generalize C1:aK W6 w5.heap.size 0 _=W7 at *;simp only [aK,Nat.zero_add,Nat.reduceAdd] at C1;obtain ⟨e0,e1,_⟩:=(aa.eS OU.o).1;have Hf:=kp (HR.o true W7 rfl fE.o);go_wp2_with fail;exact Hf.o
end Go.Proofs.YtjopcamkclndlaaGreat.Tc
