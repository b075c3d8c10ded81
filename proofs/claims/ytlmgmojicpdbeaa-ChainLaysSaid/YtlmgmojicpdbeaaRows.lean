/-
  No cell of these rows narrows 'for every input' (looked for: loops, veiled, ifaces, maps, wideKeys, modest, calm, conditions, laid).
  DERIVED. THE GIVEN ROWS OF THIS SEAT. 11 by the template 'for every input the law returns true; each argument reads behind the call as it read before'; 0 by the template 'total and deterministic' (their statements: YtlmgmojicpdbeaaTotals.lean).
  GIVEN WITH THE SEED: the statements are not yours to turn. If you find one false, say at which input.
  Laid BY PROGRAM, IN A SANDBOX (cutbox-rows.mjs): the forced cells as the released guide's own fill.sh prints them over the translation a5c3e26088689b0e… (all of the seat's roots in one cut). By AI agents, Wed Nov 11 2026. No macro, syntax, notation, axiom, sorry.
-/
import Derived.Test.YtlmgmojicpdbeaaChecked
import GoSem.Claim
import GoSem.ClaimJoined
import GoSem.ClaimMapViews
import Derived.JoinedTies
import Derived.KernelRfl
namespace Go.Proofs.Ytlmgmojicpdbeaa
/- THE CELL 'sum', in the pinned program and in every row, IS THE sha256 OF THE DUMP (.gsa) THAT YtlmgmojicpdbeaaProg.lean LOADS. Nothing in Lean hashes anything: it is a label: what it is worth is what the hold of that sum in a sandbox is worth. -/
noncomputable def Try.pinned : Pinned := { name := "ytlmgmojicpdbeaa", sum := "a5c3e26088689b0e9bc235a5c3d43a6c94444c408591fd1ee93c0e75f9689497", checked := Try.checked }
namespace Rows
def none {H : Type} : Left H := { results := [], args := [] }

/-- 'pitheadlaw03.ExactAdds': WHATEVER THE INPUT: true; the input reads as it did. -/
def exactAddsSpec : ChangeSpec := { name := "exactAdds", fn := fun _ => fun
  | [d1, d2] => { results := [.lit (.bool true)], args := [d1, d2] }
  | _ => none }
def exactAddsRow : OpenClaim := { program := "ytlmgmojicpdbeaa", sum := "a5c3e26088689b0e9bc235a5c3d43a6c94444c408591fd1ee93c0e75f9689497", func := "pithead/pitheadlaw03.ExactAdds", spec := "exactAdds", apart := false }
def ExactAddsSaid : Prop := exactAddsRow.holds Try.pinned (OpenSpec.ofChange exactAddsSpec)

/-- ITS FALSE NEIGHBOUR: 'it returns false'. Refute it at one input. -/
def exactAddsWrong : ChangeSpec := { name := "exactAdds", fn := fun _ => fun
  | [d1, d2] => { results := [.lit (.bool false)], args := [d1, d2] }
  | _ => none }
def ExactAddsWrongFalsely : Prop := exactAddsRow.holds Try.pinned (OpenSpec.ofChange exactAddsWrong)

/-- 'pitheadlaw03.ExactSums': WHATEVER THE INPUT: true; the input reads as it did. -/
def exactSumsSpec : ChangeSpec := { name := "exactSums", fn := fun _ => fun
  | [d] => { results := [.lit (.bool true)], args := [d] }
  | _ => none }
def exactSumsRow : OpenClaim := { program := "ytlmgmojicpdbeaa", sum := "a5c3e26088689b0e9bc235a5c3d43a6c94444c408591fd1ee93c0e75f9689497", func := "pithead/pitheadlaw03.ExactSums", spec := "exactSums", apart := false }
def ExactSumsSaid : Prop := exactSumsRow.holds Try.pinned (OpenSpec.ofChange exactSumsSpec)

/-- ITS FALSE NEIGHBOUR: 'it returns false'. Refute it at one input. -/
def exactSumsWrong : ChangeSpec := { name := "exactSums", fn := fun _ => fun
  | [d] => { results := [.lit (.bool false)], args := [d] }
  | _ => none }
def ExactSumsWrongFalsely : Prop := exactSumsRow.holds Try.pinned (OpenSpec.ofChange exactSumsWrong)

/-- 'pitheadlaw03.ExactTotals': WHATEVER THE INPUT: true; the input reads as it did. -/
def exactTotalsSpec : ChangeSpec := { name := "exactTotals", fn := fun _ => fun
  | [d1, d2, d3] => { results := [.lit (.bool true)], args := [d1, d2, d3] }
  | _ => none }
def exactTotalsRow : OpenClaim := { program := "ytlmgmojicpdbeaa", sum := "a5c3e26088689b0e9bc235a5c3d43a6c94444c408591fd1ee93c0e75f9689497", func := "pithead/pitheadlaw03.ExactTotals", spec := "exactTotals", apart := false }
def ExactTotalsSaid : Prop := exactTotalsRow.holds Try.pinned (OpenSpec.ofChange exactTotalsSpec)

/-- ITS FALSE NEIGHBOUR: 'it returns false'. Refute it at one input. -/
def exactTotalsWrong : ChangeSpec := { name := "exactTotals", fn := fun _ => fun
  | [d1, d2, d3] => { results := [.lit (.bool false)], args := [d1, d2, d3] }
  | _ => none }
def ExactTotalsWrongFalsely : Prop := exactTotalsRow.holds Try.pinned (OpenSpec.ofChange exactTotalsWrong)

/-- 'pitheadlaw02.CrcSums': WHATEVER THE INPUT: true; the input reads as it did. -/
def crcSumsSpec : ChangeSpec := { name := "crcSums", fn := fun _ => fun
  | [d1, d2, d3] => { results := [.lit (.bool true)], args := [d1, d2, d3] }
  | _ => none }
def crcSumsRow : OpenClaim := { program := "ytlmgmojicpdbeaa", sum := "a5c3e26088689b0e9bc235a5c3d43a6c94444c408591fd1ee93c0e75f9689497", func := "pithead/pitheadlaw02.CrcSums", spec := "crcSums", apart := false }
def CrcSumsSaid : Prop := crcSumsRow.holds Try.pinned (OpenSpec.ofChange crcSumsSpec)

/-- ITS FALSE NEIGHBOUR: 'it returns false'. Refute it at one input. -/
def crcSumsWrong : ChangeSpec := { name := "crcSums", fn := fun _ => fun
  | [d1, d2, d3] => { results := [.lit (.bool false)], args := [d1, d2, d3] }
  | _ => none }
def CrcSumsWrongFalsely : Prop := crcSumsRow.holds Try.pinned (OpenSpec.ofChange crcSumsWrong)

/-- 'pitheadlaw03.ExactAny': WHATEVER THE INPUT: true; the input reads as it did. -/
def exactAnySpec : ChangeSpec := { name := "exactAny", fn := fun _ => fun
  | [d1, d2] => { results := [.lit (.bool true)], args := [d1, d2] }
  | _ => none }
def exactAnyRow : OpenClaim := { program := "ytlmgmojicpdbeaa", sum := "a5c3e26088689b0e9bc235a5c3d43a6c94444c408591fd1ee93c0e75f9689497", func := "pithead/pitheadlaw03.ExactAny", spec := "exactAny", apart := false }
def ExactAnySaid : Prop := exactAnyRow.holds Try.pinned (OpenSpec.ofChange exactAnySpec)

/-- ITS FALSE NEIGHBOUR: 'it returns false'. Refute it at one input. -/
def exactAnyWrong : ChangeSpec := { name := "exactAny", fn := fun _ => fun
  | [d1, d2] => { results := [.lit (.bool false)], args := [d1, d2] }
  | _ => none }
def ExactAnyWrongFalsely : Prop := exactAnyRow.holds Try.pinned (OpenSpec.ofChange exactAnyWrong)

/-- 'pitheadlaw12.ChainPuts': WHATEVER THE INPUT: true; the input reads as it did. -/
def chainPutsSpec : ChangeSpec := { name := "chainPuts", fn := fun _ => fun
  | [d1, d2] => { results := [.lit (.bool true)], args := [d1, d2] }
  | _ => none }
def chainPutsRow : OpenClaim := { program := "ytlmgmojicpdbeaa", sum := "a5c3e26088689b0e9bc235a5c3d43a6c94444c408591fd1ee93c0e75f9689497", func := "pithead/pitheadlaw12.ChainPuts", spec := "chainPuts", apart := false }
def ChainPutsSaid : Prop := chainPutsRow.holds Try.pinned (OpenSpec.ofChange chainPutsSpec)

/-- ITS FALSE NEIGHBOUR: 'it returns false'. Refute it at one input. -/
def chainPutsWrong : ChangeSpec := { name := "chainPuts", fn := fun _ => fun
  | [d1, d2] => { results := [.lit (.bool false)], args := [d1, d2] }
  | _ => none }
def ChainPutsWrongFalsely : Prop := chainPutsRow.holds Try.pinned (OpenSpec.ofChange chainPutsWrong)

/-- 'pitheadlaw12.ChainTakes': WHATEVER THE INPUT: true; the input reads as it did. -/
def chainTakesSpec : ChangeSpec := { name := "chainTakes", fn := fun _ => fun
  | [d1, d2] => { results := [.lit (.bool true)], args := [d1, d2] }
  | _ => none }
def chainTakesRow : OpenClaim := { program := "ytlmgmojicpdbeaa", sum := "a5c3e26088689b0e9bc235a5c3d43a6c94444c408591fd1ee93c0e75f9689497", func := "pithead/pitheadlaw12.ChainTakes", spec := "chainTakes", apart := false }
def ChainTakesSaid : Prop := chainTakesRow.holds Try.pinned (OpenSpec.ofChange chainTakesSpec)

/-- ITS FALSE NEIGHBOUR: 'it returns false'. Refute it at one input. -/
def chainTakesWrong : ChangeSpec := { name := "chainTakes", fn := fun _ => fun
  | [d1, d2] => { results := [.lit (.bool false)], args := [d1, d2] }
  | _ => none }
def ChainTakesWrongFalsely : Prop := chainTakesRow.holds Try.pinned (OpenSpec.ofChange chainTakesWrong)

/-- 'pitheadlaw02.CrcOpens': WHATEVER THE INPUT: true; the input reads as it did. -/
def crcOpensSpec : ChangeSpec := { name := "crcOpens", fn := fun _ => fun
  | [d] => { results := [.lit (.bool true)], args := [d] }
  | _ => none }
def crcOpensRow : OpenClaim := { program := "ytlmgmojicpdbeaa", sum := "a5c3e26088689b0e9bc235a5c3d43a6c94444c408591fd1ee93c0e75f9689497", func := "pithead/pitheadlaw02.CrcOpens", spec := "crcOpens", apart := false }
def CrcOpensSaid : Prop := crcOpensRow.holds Try.pinned (OpenSpec.ofChange crcOpensSpec)

/-- ITS FALSE NEIGHBOUR: 'it returns false'. Refute it at one input. -/
def crcOpensWrong : ChangeSpec := { name := "crcOpens", fn := fun _ => fun
  | [d] => { results := [.lit (.bool false)], args := [d] }
  | _ => none }
def CrcOpensWrongFalsely : Prop := crcOpensRow.holds Try.pinned (OpenSpec.ofChange crcOpensWrong)

/-- 'pitheadlaw02.CrcBurst': WHATEVER THE INPUT: true; the input reads as it did. -/
def crcBurstSpec : ChangeSpec := { name := "crcBurst", fn := fun _ => fun
  | [d1, d2, d3] => { results := [.lit (.bool true)], args := [d1, d2, d3] }
  | _ => none }
def crcBurstRow : OpenClaim := { program := "ytlmgmojicpdbeaa", sum := "a5c3e26088689b0e9bc235a5c3d43a6c94444c408591fd1ee93c0e75f9689497", func := "pithead/pitheadlaw02.CrcBurst", spec := "crcBurst", apart := false }
def CrcBurstSaid : Prop := crcBurstRow.holds Try.pinned (OpenSpec.ofChange crcBurstSpec)

/-- ITS FALSE NEIGHBOUR: 'it returns false'. Refute it at one input. -/
def crcBurstWrong : ChangeSpec := { name := "crcBurst", fn := fun _ => fun
  | [d1, d2, d3] => { results := [.lit (.bool false)], args := [d1, d2, d3] }
  | _ => none }
def CrcBurstWrongFalsely : Prop := crcBurstRow.holds Try.pinned (OpenSpec.ofChange crcBurstWrong)

/-- 'pitheadlaw12.ChainFollows': WHATEVER THE INPUT: true; the input reads as it did. -/
def chainFollowsSpec : ChangeSpec := { name := "chainFollows", fn := fun _ => fun
  | [d1, d2, d3] => { results := [.lit (.bool true)], args := [d1, d2, d3] }
  | _ => none }
def chainFollowsRow : OpenClaim := { program := "ytlmgmojicpdbeaa", sum := "a5c3e26088689b0e9bc235a5c3d43a6c94444c408591fd1ee93c0e75f9689497", func := "pithead/pitheadlaw12.ChainFollows", spec := "chainFollows", unfollowed := true, recurses := true, apart := false }
def ChainFollowsSaid : Prop := chainFollowsRow.holds Try.pinned (OpenSpec.ofChange chainFollowsSpec)

/-- ITS FALSE NEIGHBOUR: 'it returns false'. Refute it at one input. -/
def chainFollowsWrong : ChangeSpec := { name := "chainFollows", fn := fun _ => fun
  | [d1, d2, d3] => { results := [.lit (.bool false)], args := [d1, d2, d3] }
  | _ => none }
def ChainFollowsWrongFalsely : Prop := chainFollowsRow.holds Try.pinned (OpenSpec.ofChange chainFollowsWrong)

/-- 'pitheadlaw12.ChainLays': WHATEVER THE INPUT: true; the input reads as it did. -/
def chainLaysSpec : ChangeSpec := { name := "chainLays", fn := fun _ => fun
  | [d1, d2] => { results := [.lit (.bool true)], args := [d1, d2] }
  | _ => none }
def chainLaysRow : OpenClaim := { program := "ytlmgmojicpdbeaa", sum := "a5c3e26088689b0e9bc235a5c3d43a6c94444c408591fd1ee93c0e75f9689497", func := "pithead/pitheadlaw12.ChainLays", spec := "chainLays", unfollowed := true, recurses := true, apart := false }
def ChainLaysSaid : Prop := chainLaysRow.holds Try.pinned (OpenSpec.ofChange chainLaysSpec)

/-- ITS FALSE NEIGHBOUR: 'it returns false'. Refute it at one input. -/
def chainLaysWrong : ChangeSpec := { name := "chainLays", fn := fun _ => fun
  | [d1, d2] => { results := [.lit (.bool false)], args := [d1, d2] }
  | _ => none }
def ChainLaysWrongFalsely : Prop := chainLaysRow.holds Try.pinned (OpenSpec.ofChange chainLaysWrong)

/- THE SECOND FORM. 'bulk': how many values and letters a reading holds, each counted each time it is reached (what is shared counts as often as it is met; a slice's spare places count too). A statement '..UptoSaid' is the law's where the arguments, and the package variables that the reading takes, are together of bulk at most 1048576: NARROWER than '..Said'. Prove '..Said' where nothing that the law and all that it calls make is longer than what came in: it says more and counts as full. Else prove '..UptoSaid'. A law counts once. -/
mutual
def uptoBulk {H : Type} : DataW H → Nat
  | .lit (.string bytes) => bytes.length + 1
  | .lit _ => 1
  | .nil => 1
  | .ptr d => uptoBulk d + 1
  | .slice elems spare => uptoBulkAll elems + uptoBulkAll spare + 1
  | .agg parts => uptoBulkAll parts + 1
  | .iface _ d => uptoBulk d + 1
  | .map entries => uptoBulkEntries entries + 1
  | .held _ => 1
def uptoBulkAll {H : Type} : List (DataW H) → Nat
  | [] => 0
  | d :: r => uptoBulk d + uptoBulkAll r
def uptoBulkEntries {H : Type} : List (Lit × DataW H) → Nat
  | [] => 0
  | x :: r => uptoBulkEntry x + uptoBulkEntries r
def uptoBulkEntry {H : Type} : Lit × DataW H → Nat
  | (.string bytes, d) => bytes.length + uptoBulk d + 1
  | (_, d) => uptoBulk d + 1
 end
def uptoSmall : (H : Type) → List (DataW H) → Bool := fun _ ds => decide (uptoBulkAll ds ≤ 1048576)
def OpenSpec.upto (s : _root_.Go.ChangeSpec) : _root_.Go.OpenSpec := { _root_.Go.OpenSpec.ofChange s with cond := some uptoSmall }

/-- 'pitheadlaw03.ExactAdds', WHERE WHAT IT READS IS OF BULK AT MOST 1048576: true; the input reads as it did. -/
def exactAddsUptoRow : OpenClaim := { program := "ytlmgmojicpdbeaa", sum := "a5c3e26088689b0e9bc235a5c3d43a6c94444c408591fd1ee93c0e75f9689497", func := "pithead/pitheadlaw03.ExactAdds", spec := "exactAdds", apart := false, narrowed := true }
def ExactAddsUptoSaid : Prop := exactAddsUptoRow.holds Try.pinned (OpenSpec.upto exactAddsSpec)

/-- 'pitheadlaw03.ExactSums', WHERE WHAT IT READS IS OF BULK AT MOST 1048576: true; the input reads as it did. -/
def exactSumsUptoRow : OpenClaim := { program := "ytlmgmojicpdbeaa", sum := "a5c3e26088689b0e9bc235a5c3d43a6c94444c408591fd1ee93c0e75f9689497", func := "pithead/pitheadlaw03.ExactSums", spec := "exactSums", apart := false, narrowed := true }
def ExactSumsUptoSaid : Prop := exactSumsUptoRow.holds Try.pinned (OpenSpec.upto exactSumsSpec)

/-- 'pitheadlaw03.ExactTotals', WHERE WHAT IT READS IS OF BULK AT MOST 1048576: true; the input reads as it did. -/
def exactTotalsUptoRow : OpenClaim := { program := "ytlmgmojicpdbeaa", sum := "a5c3e26088689b0e9bc235a5c3d43a6c94444c408591fd1ee93c0e75f9689497", func := "pithead/pitheadlaw03.ExactTotals", spec := "exactTotals", apart := false, narrowed := true }
def ExactTotalsUptoSaid : Prop := exactTotalsUptoRow.holds Try.pinned (OpenSpec.upto exactTotalsSpec)

/-- 'pitheadlaw02.CrcSums', WHERE WHAT IT READS IS OF BULK AT MOST 1048576: true; the input reads as it did. -/
def crcSumsUptoRow : OpenClaim := { program := "ytlmgmojicpdbeaa", sum := "a5c3e26088689b0e9bc235a5c3d43a6c94444c408591fd1ee93c0e75f9689497", func := "pithead/pitheadlaw02.CrcSums", spec := "crcSums", apart := false, narrowed := true }
def CrcSumsUptoSaid : Prop := crcSumsUptoRow.holds Try.pinned (OpenSpec.upto crcSumsSpec)

/-- 'pitheadlaw03.ExactAny', WHERE WHAT IT READS IS OF BULK AT MOST 1048576: true; the input reads as it did. -/
def exactAnyUptoRow : OpenClaim := { program := "ytlmgmojicpdbeaa", sum := "a5c3e26088689b0e9bc235a5c3d43a6c94444c408591fd1ee93c0e75f9689497", func := "pithead/pitheadlaw03.ExactAny", spec := "exactAny", apart := false, narrowed := true }
def ExactAnyUptoSaid : Prop := exactAnyUptoRow.holds Try.pinned (OpenSpec.upto exactAnySpec)

/-- 'pitheadlaw12.ChainPuts', WHERE WHAT IT READS IS OF BULK AT MOST 1048576: true; the input reads as it did. -/
def chainPutsUptoRow : OpenClaim := { program := "ytlmgmojicpdbeaa", sum := "a5c3e26088689b0e9bc235a5c3d43a6c94444c408591fd1ee93c0e75f9689497", func := "pithead/pitheadlaw12.ChainPuts", spec := "chainPuts", apart := false, narrowed := true }
def ChainPutsUptoSaid : Prop := chainPutsUptoRow.holds Try.pinned (OpenSpec.upto chainPutsSpec)

/-- 'pitheadlaw12.ChainTakes', WHERE WHAT IT READS IS OF BULK AT MOST 1048576: true; the input reads as it did. -/
def chainTakesUptoRow : OpenClaim := { program := "ytlmgmojicpdbeaa", sum := "a5c3e26088689b0e9bc235a5c3d43a6c94444c408591fd1ee93c0e75f9689497", func := "pithead/pitheadlaw12.ChainTakes", spec := "chainTakes", apart := false, narrowed := true }
def ChainTakesUptoSaid : Prop := chainTakesUptoRow.holds Try.pinned (OpenSpec.upto chainTakesSpec)

/-- 'pitheadlaw02.CrcOpens', WHERE WHAT IT READS IS OF BULK AT MOST 1048576: true; the input reads as it did. -/
def crcOpensUptoRow : OpenClaim := { program := "ytlmgmojicpdbeaa", sum := "a5c3e26088689b0e9bc235a5c3d43a6c94444c408591fd1ee93c0e75f9689497", func := "pithead/pitheadlaw02.CrcOpens", spec := "crcOpens", apart := false, narrowed := true }
def CrcOpensUptoSaid : Prop := crcOpensUptoRow.holds Try.pinned (OpenSpec.upto crcOpensSpec)

/-- 'pitheadlaw02.CrcBurst', WHERE WHAT IT READS IS OF BULK AT MOST 1048576: true; the input reads as it did. -/
def crcBurstUptoRow : OpenClaim := { program := "ytlmgmojicpdbeaa", sum := "a5c3e26088689b0e9bc235a5c3d43a6c94444c408591fd1ee93c0e75f9689497", func := "pithead/pitheadlaw02.CrcBurst", spec := "crcBurst", apart := false, narrowed := true }
def CrcBurstUptoSaid : Prop := crcBurstUptoRow.holds Try.pinned (OpenSpec.upto crcBurstSpec)

/-- 'pitheadlaw12.ChainFollows', WHERE WHAT IT READS IS OF BULK AT MOST 1048576: true; the input reads as it did. -/
def chainFollowsUptoRow : OpenClaim := { program := "ytlmgmojicpdbeaa", sum := "a5c3e26088689b0e9bc235a5c3d43a6c94444c408591fd1ee93c0e75f9689497", func := "pithead/pitheadlaw12.ChainFollows", spec := "chainFollows", unfollowed := true, recurses := true, apart := false, narrowed := true }
def ChainFollowsUptoSaid : Prop := chainFollowsUptoRow.holds Try.pinned (OpenSpec.upto chainFollowsSpec)

/-- 'pitheadlaw12.ChainLays', WHERE WHAT IT READS IS OF BULK AT MOST 1048576: true; the input reads as it did. -/
def chainLaysUptoRow : OpenClaim := { program := "ytlmgmojicpdbeaa", sum := "a5c3e26088689b0e9bc235a5c3d43a6c94444c408591fd1ee93c0e75f9689497", func := "pithead/pitheadlaw12.ChainLays", spec := "chainLays", unfollowed := true, recurses := true, apart := false, narrowed := true }
def ChainLaysUptoSaid : Prop := chainLaysUptoRow.holds Try.pinned (OpenSpec.upto chainLaysSpec)

end Rows
end Go.Proofs.Ytlmgmojicpdbeaa
