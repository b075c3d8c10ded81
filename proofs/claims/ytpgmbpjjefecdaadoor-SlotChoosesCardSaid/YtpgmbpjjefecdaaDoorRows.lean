/-
  NARROWER THAN 'FOR EVERY INPUT', by the rows' own cells (each row's printed sentence says how): PagePuts: laid · PageTakes: laid · PageSplits: laid · PageCounts: laid · SlotPuts: laid · SlotTakes: laid · SlotChooses: laid · SlotTears: laid · SlotAgain: laid.
  DERIVED. THE GIVEN ROWS OF THIS SEAT. 9 by the template 'for every input the law returns true; each argument reads behind the call as it read before'; 0 by the template 'total and deterministic' (their statements: YtpgmbpjjefecdaaDoorTotals.lean).
  GIVEN WITH THE SEED: the statements are not yours to turn. If you find one false, say at which input.
  Laid BY PROGRAM, IN A SANDBOX (cutbox-rows.mjs): the forced cells as the released guide's own fill.sh prints them over the translation 18b4a23744b4c5ea… (all of the seat's roots in one cut). By AI agents, Wed Nov 11 2026. No macro, syntax, notation, axiom, sorry.
-/
import Derived.Test.YtpgmbpjjefecdaaDoorChecked
import GoSem.PinnedTables
import GoSem.Claim
import GoSem.ClaimJoined
import GoSem.ClaimMapViews
import Derived.JoinedTies
import Derived.KernelRfl
namespace Go.Proofs.YtpgmbpjjefecdaaDoor
/- THE CELL 'sum', in the pinned program and in every row, IS THE sha256 OF THE DUMP (.gsa) THAT YtpgmbpjjefecdaaDoorProg.lean LOADS. Nothing in Lean hashes anything: it is a label: what it is worth is what the hold of that sum in a sandbox is worth. -/
noncomputable def Tryd.pinned : Pinned := { name := "ytpgmbpjjefecdaadoor", sum := "18b4a23744b4c5ea04752dce865c35ab669eed6d9d571bc038b15ad496c8f539", checked := Tryd.checked }
namespace Rows
def none {H : Type} : Left H := { results := [], args := [] }

/- WHAT THE LISTED PACKAGE-LEVEL VARIABLES READ AS WHEN THE CALL BEGINS. Each datum BY PROGRAM (the guide's laid-datum.mjs) off the statement by which the dump's own 'gosem.cut.vars' lays the variable. In a bare row this is a premise. The card (YtpgmbpjjefecdaaDoorCards.lean) ties it to the program's text. -/
def laid_unicode_utf8_acceptRanges {H : Type} : DataW H := .agg [.agg [.lit (.int .u8 128), .lit (.int .u8 191)], .agg [.lit (.int .u8 160), .lit (.int .u8 191)], .agg [.lit (.int .u8 128), .lit (.int .u8 159)], .agg [.lit (.int .u8 144), .lit (.int .u8 191)], .agg [.lit (.int .u8 128), .lit (.int .u8 143)], .agg [.lit (.int .u8 0), .lit (.int .u8 0)], .agg [.lit (.int .u8 0), .lit (.int .u8 0)], .agg [.lit (.int .u8 0), .lit (.int .u8 0)], .agg [.lit (.int .u8 0), .lit (.int .u8 0)], .agg [.lit (.int .u8 0), .lit (.int .u8 0)], .agg [.lit (.int .u8 0), .lit (.int .u8 0)], .agg [.lit (.int .u8 0), .lit (.int .u8 0)], .agg [.lit (.int .u8 0), .lit (.int .u8 0)], .agg [.lit (.int .u8 0), .lit (.int .u8 0)], .agg [.lit (.int .u8 0), .lit (.int .u8 0)], .agg [.lit (.int .u8 0), .lit (.int .u8 0)]]
/-- One of Go's own tables, pinned by name: the form's constant. -/
def laid_unicode_utf8_first : DataW Unit := Go.Pinned.utf8First

/-- 'pitheadlaw08.PagePuts': WHATEVER THE INPUT: true; the input reads as it did. -/
def pagePutsSpec : ChangeSpec := { name := "pagePuts", fn := fun _ => fun
  | [d1, d2, d3, d4, d5] => { results := [.lit (.bool true)], args := [d1, d2, d3, d4, d5] }
  | _ => none }
def pagePutsRow : OpenClaim := { program := "ytpgmbpjjefecdaadoor", sum := "18b4a23744b4c5ea04752dce865c35ab669eed6d9d571bc038b15ad496c8f539", func := "pithead/pitheadlaw08.PagePuts", spec := "pagePuts", inPlace := ["internal/abi.NoEscape", "internal/bytealg.MakeNoZero", "internal/bytealg.IndexByteString", "internal/bytealg.IndexString"], named := ["unicode/utf8.first", "unicode/utf8.acceptRanges", "internal/bytealg.MaxLen"], apart := false, laid := [("unicode/utf8.acceptRanges", laid_unicode_utf8_acceptRanges), ("unicode/utf8.first", laid_unicode_utf8_first)] }
def PagePutsSaid : Prop := pagePutsRow.holds Tryd.pinned (OpenSpec.ofChange pagePutsSpec)

/-- ITS FALSE NEIGHBOUR: 'it returns false'. Refute it at one input. -/
def pagePutsWrong : ChangeSpec := { name := "pagePuts", fn := fun _ => fun
  | [d1, d2, d3, d4, d5] => { results := [.lit (.bool false)], args := [d1, d2, d3, d4, d5] }
  | _ => none }
def PagePutsWrongFalsely : Prop := pagePutsRow.holds Tryd.pinned (OpenSpec.ofChange pagePutsWrong)

/-- 'pitheadlaw08.PageTakes': WHATEVER THE INPUT: true; the input reads as it did. -/
def pageTakesSpec : ChangeSpec := { name := "pageTakes", fn := fun _ => fun
  | [d] => { results := [.lit (.bool true)], args := [d] }
  | _ => none }
def pageTakesRow : OpenClaim := { program := "ytpgmbpjjefecdaadoor", sum := "18b4a23744b4c5ea04752dce865c35ab669eed6d9d571bc038b15ad496c8f539", func := "pithead/pitheadlaw08.PageTakes", spec := "pageTakes", inPlace := ["internal/abi.NoEscape", "internal/bytealg.MakeNoZero", "internal/bytealg.IndexByteString", "internal/bytealg.IndexString"], named := ["unicode/utf8.first", "unicode/utf8.acceptRanges", "internal/bytealg.MaxLen"], apart := false, laid := [("unicode/utf8.acceptRanges", laid_unicode_utf8_acceptRanges), ("unicode/utf8.first", laid_unicode_utf8_first)] }
def PageTakesSaid : Prop := pageTakesRow.holds Tryd.pinned (OpenSpec.ofChange pageTakesSpec)

/-- ITS FALSE NEIGHBOUR: 'it returns false'. Refute it at one input. -/
def pageTakesWrong : ChangeSpec := { name := "pageTakes", fn := fun _ => fun
  | [d] => { results := [.lit (.bool false)], args := [d] }
  | _ => none }
def PageTakesWrongFalsely : Prop := pageTakesRow.holds Tryd.pinned (OpenSpec.ofChange pageTakesWrong)

/-- 'pitheadlaw08.PageSplits': WHATEVER THE INPUT: true; the input reads as it did. -/
def pageSplitsSpec : ChangeSpec := { name := "pageSplits", fn := fun _ => fun
  | [d1, d2, d3] => { results := [.lit (.bool true)], args := [d1, d2, d3] }
  | _ => none }
def pageSplitsRow : OpenClaim := { program := "ytpgmbpjjefecdaadoor", sum := "18b4a23744b4c5ea04752dce865c35ab669eed6d9d571bc038b15ad496c8f539", func := "pithead/pitheadlaw08.PageSplits", spec := "pageSplits", inPlace := ["internal/abi.NoEscape", "internal/bytealg.MakeNoZero", "internal/bytealg.IndexByteString", "internal/bytealg.IndexString"], named := ["unicode/utf8.first", "unicode/utf8.acceptRanges", "internal/bytealg.MaxLen"], apart := false, laid := [("unicode/utf8.acceptRanges", laid_unicode_utf8_acceptRanges), ("unicode/utf8.first", laid_unicode_utf8_first)] }
def PageSplitsSaid : Prop := pageSplitsRow.holds Tryd.pinned (OpenSpec.ofChange pageSplitsSpec)

/-- ITS FALSE NEIGHBOUR: 'it returns false'. Refute it at one input. -/
def pageSplitsWrong : ChangeSpec := { name := "pageSplits", fn := fun _ => fun
  | [d1, d2, d3] => { results := [.lit (.bool false)], args := [d1, d2, d3] }
  | _ => none }
def PageSplitsWrongFalsely : Prop := pageSplitsRow.holds Tryd.pinned (OpenSpec.ofChange pageSplitsWrong)

/-- 'pitheadlaw08.PageCounts': WHATEVER THE INPUT: true; the input reads as it did. -/
def pageCountsSpec : ChangeSpec := { name := "pageCounts", fn := fun _ => fun
  | [d1, d2] => { results := [.lit (.bool true)], args := [d1, d2] }
  | _ => none }
def pageCountsRow : OpenClaim := { program := "ytpgmbpjjefecdaadoor", sum := "18b4a23744b4c5ea04752dce865c35ab669eed6d9d571bc038b15ad496c8f539", func := "pithead/pitheadlaw08.PageCounts", spec := "pageCounts", inPlace := ["internal/abi.NoEscape", "internal/bytealg.MakeNoZero", "internal/bytealg.IndexByteString", "internal/bytealg.IndexString"], named := ["unicode/utf8.first", "unicode/utf8.acceptRanges", "internal/bytealg.MaxLen"], apart := false, laid := [("unicode/utf8.acceptRanges", laid_unicode_utf8_acceptRanges), ("unicode/utf8.first", laid_unicode_utf8_first)] }
def PageCountsSaid : Prop := pageCountsRow.holds Tryd.pinned (OpenSpec.ofChange pageCountsSpec)

/-- ITS FALSE NEIGHBOUR: 'it returns false'. Refute it at one input. -/
def pageCountsWrong : ChangeSpec := { name := "pageCounts", fn := fun _ => fun
  | [d1, d2] => { results := [.lit (.bool false)], args := [d1, d2] }
  | _ => none }
def PageCountsWrongFalsely : Prop := pageCountsRow.holds Tryd.pinned (OpenSpec.ofChange pageCountsWrong)

/-- 'pitheadlaw09.SlotPuts': WHATEVER THE INPUT: true; the input reads as it did. -/
def slotPutsSpec : ChangeSpec := { name := "slotPuts", fn := fun _ => fun
  | [d] => { results := [.lit (.bool true)], args := [d] }
  | _ => none }
def slotPutsRow : OpenClaim := { program := "ytpgmbpjjefecdaadoor", sum := "18b4a23744b4c5ea04752dce865c35ab669eed6d9d571bc038b15ad496c8f539", func := "pithead/pitheadlaw09.SlotPuts", spec := "slotPuts", inPlace := ["internal/abi.NoEscape", "internal/bytealg.MakeNoZero", "internal/bytealg.IndexByteString", "internal/bytealg.IndexString"], unfollowed := true, recurses := true, named := ["unicode/utf8.first", "unicode/utf8.acceptRanges", "internal/bytealg.MaxLen"], apart := false, laid := [("unicode/utf8.acceptRanges", laid_unicode_utf8_acceptRanges), ("unicode/utf8.first", laid_unicode_utf8_first)] }
def SlotPutsSaid : Prop := slotPutsRow.holds Tryd.pinned (OpenSpec.ofChange slotPutsSpec)

/-- ITS FALSE NEIGHBOUR: 'it returns false'. Refute it at one input. -/
def slotPutsWrong : ChangeSpec := { name := "slotPuts", fn := fun _ => fun
  | [d] => { results := [.lit (.bool false)], args := [d] }
  | _ => none }
def SlotPutsWrongFalsely : Prop := slotPutsRow.holds Tryd.pinned (OpenSpec.ofChange slotPutsWrong)

/-- 'pitheadlaw09.SlotTakes': WHATEVER THE INPUT: true; the input reads as it did. -/
def slotTakesSpec : ChangeSpec := { name := "slotTakes", fn := fun _ => fun
  | [d1, d2] => { results := [.lit (.bool true)], args := [d1, d2] }
  | _ => none }
def slotTakesRow : OpenClaim := { program := "ytpgmbpjjefecdaadoor", sum := "18b4a23744b4c5ea04752dce865c35ab669eed6d9d571bc038b15ad496c8f539", func := "pithead/pitheadlaw09.SlotTakes", spec := "slotTakes", inPlace := ["internal/abi.NoEscape", "internal/bytealg.MakeNoZero", "internal/bytealg.IndexByteString", "internal/bytealg.IndexString"], unfollowed := true, recurses := true, named := ["unicode/utf8.first", "unicode/utf8.acceptRanges", "internal/bytealg.MaxLen"], apart := false, laid := [("unicode/utf8.acceptRanges", laid_unicode_utf8_acceptRanges), ("unicode/utf8.first", laid_unicode_utf8_first)] }
def SlotTakesSaid : Prop := slotTakesRow.holds Tryd.pinned (OpenSpec.ofChange slotTakesSpec)

/-- ITS FALSE NEIGHBOUR: 'it returns false'. Refute it at one input. -/
def slotTakesWrong : ChangeSpec := { name := "slotTakes", fn := fun _ => fun
  | [d1, d2] => { results := [.lit (.bool false)], args := [d1, d2] }
  | _ => none }
def SlotTakesWrongFalsely : Prop := slotTakesRow.holds Tryd.pinned (OpenSpec.ofChange slotTakesWrong)

/-- 'pitheadlaw09.SlotChooses': WHATEVER THE INPUT: true; the input reads as it did. -/
def slotChoosesSpec : ChangeSpec := { name := "slotChooses", fn := fun _ => fun
  | [d1, d2, d3] => { results := [.lit (.bool true)], args := [d1, d2, d3] }
  | _ => none }
def slotChoosesRow : OpenClaim := { program := "ytpgmbpjjefecdaadoor", sum := "18b4a23744b4c5ea04752dce865c35ab669eed6d9d571bc038b15ad496c8f539", func := "pithead/pitheadlaw09.SlotChooses", spec := "slotChooses", inPlace := ["internal/abi.NoEscape", "internal/bytealg.MakeNoZero", "internal/bytealg.IndexByteString", "internal/bytealg.IndexString"], unfollowed := true, recurses := true, named := ["unicode/utf8.first", "unicode/utf8.acceptRanges", "internal/bytealg.MaxLen"], apart := false, laid := [("unicode/utf8.acceptRanges", laid_unicode_utf8_acceptRanges), ("unicode/utf8.first", laid_unicode_utf8_first)] }
def SlotChoosesSaid : Prop := slotChoosesRow.holds Tryd.pinned (OpenSpec.ofChange slotChoosesSpec)

/-- ITS FALSE NEIGHBOUR: 'it returns false'. Refute it at one input. -/
def slotChoosesWrong : ChangeSpec := { name := "slotChooses", fn := fun _ => fun
  | [d1, d2, d3] => { results := [.lit (.bool false)], args := [d1, d2, d3] }
  | _ => none }
def SlotChoosesWrongFalsely : Prop := slotChoosesRow.holds Tryd.pinned (OpenSpec.ofChange slotChoosesWrong)

/-- 'pitheadlaw09.SlotTears': WHATEVER THE INPUT: true; the input reads as it did. -/
def slotTearsSpec : ChangeSpec := { name := "slotTears", fn := fun _ => fun
  | [d1, d2, d3] => { results := [.lit (.bool true)], args := [d1, d2, d3] }
  | _ => none }
def slotTearsRow : OpenClaim := { program := "ytpgmbpjjefecdaadoor", sum := "18b4a23744b4c5ea04752dce865c35ab669eed6d9d571bc038b15ad496c8f539", func := "pithead/pitheadlaw09.SlotTears", spec := "slotTears", inPlace := ["internal/abi.NoEscape", "internal/bytealg.MakeNoZero", "internal/bytealg.IndexByteString", "internal/bytealg.IndexString"], unfollowed := true, recurses := true, named := ["unicode/utf8.first", "unicode/utf8.acceptRanges", "internal/bytealg.MaxLen"], apart := false, laid := [("unicode/utf8.acceptRanges", laid_unicode_utf8_acceptRanges), ("unicode/utf8.first", laid_unicode_utf8_first)] }
def SlotTearsSaid : Prop := slotTearsRow.holds Tryd.pinned (OpenSpec.ofChange slotTearsSpec)

/-- ITS FALSE NEIGHBOUR: 'it returns false'. Refute it at one input. -/
def slotTearsWrong : ChangeSpec := { name := "slotTears", fn := fun _ => fun
  | [d1, d2, d3] => { results := [.lit (.bool false)], args := [d1, d2, d3] }
  | _ => none }
def SlotTearsWrongFalsely : Prop := slotTearsRow.holds Tryd.pinned (OpenSpec.ofChange slotTearsWrong)

/-- 'pitheadlaw09.SlotAgain': WHATEVER THE INPUT: true; the input reads as it did. -/
def slotAgainSpec : ChangeSpec := { name := "slotAgain", fn := fun _ => fun
  | [d1, d2, d3, d4, d5] => { results := [.lit (.bool true)], args := [d1, d2, d3, d4, d5] }
  | _ => none }
def slotAgainRow : OpenClaim := { program := "ytpgmbpjjefecdaadoor", sum := "18b4a23744b4c5ea04752dce865c35ab669eed6d9d571bc038b15ad496c8f539", func := "pithead/pitheadlaw09.SlotAgain", spec := "slotAgain", inPlace := ["internal/abi.NoEscape", "internal/bytealg.MakeNoZero", "internal/bytealg.IndexByteString", "internal/bytealg.IndexString"], unfollowed := true, recurses := true, named := ["unicode/utf8.first", "unicode/utf8.acceptRanges", "internal/bytealg.MaxLen"], apart := false, laid := [("unicode/utf8.acceptRanges", laid_unicode_utf8_acceptRanges), ("unicode/utf8.first", laid_unicode_utf8_first)] }
def SlotAgainSaid : Prop := slotAgainRow.holds Tryd.pinned (OpenSpec.ofChange slotAgainSpec)

/-- ITS FALSE NEIGHBOUR: 'it returns false'. Refute it at one input. -/
def slotAgainWrong : ChangeSpec := { name := "slotAgain", fn := fun _ => fun
  | [d1, d2, d3, d4, d5] => { results := [.lit (.bool false)], args := [d1, d2, d3, d4, d5] }
  | _ => none }
def SlotAgainWrongFalsely : Prop := slotAgainRow.holds Tryd.pinned (OpenSpec.ofChange slotAgainWrong)

/- THE SECOND FORM. 'bulk': how many values and letters a reading holds, each counted each time it is reached (what is shared counts as often as it is met; a slice's spare places count too). A statement '..UptoSaid' is the law's where the arguments, and the package variables that the reading takes, are together of bulk at most 1048576: NARROWER than '..Said'. Prove '..Said' where nothing that the law and all that it calls make is longer than what came in: it says more and counts as full. Else prove '..UptoSaid'. A law counts once. -/
mutual
def uptoBulk {H : Type} : DataW H → Nat
  | .lit (.string bytes) => bytes.length + 1
  | .lit _ => 1
  | .nil => 1
  | .ptr d => uptoBulk d + 1
  | .slice elems spare => uptoBulkAll elems + uptoBulkAll spare + 1
  | .agg parts => uptoBulkAll parts + 1
  | .iface _ d => uptoBulk d + 1
  | .map entries => uptoBulkEntries entries + 1
  | .held _ => 1
def uptoBulkAll {H : Type} : List (DataW H) → Nat
  | [] => 0
  | d :: r => uptoBulk d + uptoBulkAll r
def uptoBulkEntries {H : Type} : List (Lit × DataW H) → Nat
  | [] => 0
  | x :: r => uptoBulkEntry x + uptoBulkEntries r
def uptoBulkEntry {H : Type} : Lit × DataW H → Nat
  | (.string bytes, d) => bytes.length + uptoBulk d + 1
  | (_, d) => uptoBulk d + 1
 end
def uptoSmall : (H : Type) → List (DataW H) → Bool := fun _ ds => decide (uptoBulkAll ds ≤ 1048576)
def OpenSpec.upto (s : _root_.Go.ChangeSpec) : _root_.Go.OpenSpec := { _root_.Go.OpenSpec.ofChange s with cond := some uptoSmall }

/-- 'pitheadlaw08.PagePuts', WHERE WHAT IT READS IS OF BULK AT MOST 1048576: true; the input reads as it did. -/
def pagePutsUptoRow : OpenClaim := { program := "ytpgmbpjjefecdaadoor", sum := "18b4a23744b4c5ea04752dce865c35ab669eed6d9d571bc038b15ad496c8f539", func := "pithead/pitheadlaw08.PagePuts", spec := "pagePuts", inPlace := ["internal/abi.NoEscape", "internal/bytealg.MakeNoZero", "internal/bytealg.IndexByteString", "internal/bytealg.IndexString"], named := ["unicode/utf8.first", "unicode/utf8.acceptRanges", "internal/bytealg.MaxLen"], apart := false, laid := [("unicode/utf8.acceptRanges", laid_unicode_utf8_acceptRanges), ("unicode/utf8.first", laid_unicode_utf8_first)], narrowed := true }
def PagePutsUptoSaid : Prop := pagePutsUptoRow.holds Tryd.pinned (OpenSpec.upto pagePutsSpec)

/-- 'pitheadlaw08.PageTakes', WHERE WHAT IT READS IS OF BULK AT MOST 1048576: true; the input reads as it did. -/
def pageTakesUptoRow : OpenClaim := { program := "ytpgmbpjjefecdaadoor", sum := "18b4a23744b4c5ea04752dce865c35ab669eed6d9d571bc038b15ad496c8f539", func := "pithead/pitheadlaw08.PageTakes", spec := "pageTakes", inPlace := ["internal/abi.NoEscape", "internal/bytealg.MakeNoZero", "internal/bytealg.IndexByteString", "internal/bytealg.IndexString"], named := ["unicode/utf8.first", "unicode/utf8.acceptRanges", "internal/bytealg.MaxLen"], apart := false, laid := [("unicode/utf8.acceptRanges", laid_unicode_utf8_acceptRanges), ("unicode/utf8.first", laid_unicode_utf8_first)], narrowed := true }
def PageTakesUptoSaid : Prop := pageTakesUptoRow.holds Tryd.pinned (OpenSpec.upto pageTakesSpec)

/-- 'pitheadlaw08.PageSplits', WHERE WHAT IT READS IS OF BULK AT MOST 1048576: true; the input reads as it did. -/
def pageSplitsUptoRow : OpenClaim := { program := "ytpgmbpjjefecdaadoor", sum := "18b4a23744b4c5ea04752dce865c35ab669eed6d9d571bc038b15ad496c8f539", func := "pithead/pitheadlaw08.PageSplits", spec := "pageSplits", inPlace := ["internal/abi.NoEscape", "internal/bytealg.MakeNoZero", "internal/bytealg.IndexByteString", "internal/bytealg.IndexString"], named := ["unicode/utf8.first", "unicode/utf8.acceptRanges", "internal/bytealg.MaxLen"], apart := false, laid := [("unicode/utf8.acceptRanges", laid_unicode_utf8_acceptRanges), ("unicode/utf8.first", laid_unicode_utf8_first)], narrowed := true }
def PageSplitsUptoSaid : Prop := pageSplitsUptoRow.holds Tryd.pinned (OpenSpec.upto pageSplitsSpec)

/-- 'pitheadlaw08.PageCounts', WHERE WHAT IT READS IS OF BULK AT MOST 1048576: true; the input reads as it did. -/
def pageCountsUptoRow : OpenClaim := { program := "ytpgmbpjjefecdaadoor", sum := "18b4a23744b4c5ea04752dce865c35ab669eed6d9d571bc038b15ad496c8f539", func := "pithead/pitheadlaw08.PageCounts", spec := "pageCounts", inPlace := ["internal/abi.NoEscape", "internal/bytealg.MakeNoZero", "internal/bytealg.IndexByteString", "internal/bytealg.IndexString"], named := ["unicode/utf8.first", "unicode/utf8.acceptRanges", "internal/bytealg.MaxLen"], apart := false, laid := [("unicode/utf8.acceptRanges", laid_unicode_utf8_acceptRanges), ("unicode/utf8.first", laid_unicode_utf8_first)], narrowed := true }
def PageCountsUptoSaid : Prop := pageCountsUptoRow.holds Tryd.pinned (OpenSpec.upto pageCountsSpec)

/-- 'pitheadlaw09.SlotPuts', WHERE WHAT IT READS IS OF BULK AT MOST 1048576: true; the input reads as it did. -/
def slotPutsUptoRow : OpenClaim := { program := "ytpgmbpjjefecdaadoor", sum := "18b4a23744b4c5ea04752dce865c35ab669eed6d9d571bc038b15ad496c8f539", func := "pithead/pitheadlaw09.SlotPuts", spec := "slotPuts", inPlace := ["internal/abi.NoEscape", "internal/bytealg.MakeNoZero", "internal/bytealg.IndexByteString", "internal/bytealg.IndexString"], unfollowed := true, recurses := true, named := ["unicode/utf8.first", "unicode/utf8.acceptRanges", "internal/bytealg.MaxLen"], apart := false, laid := [("unicode/utf8.acceptRanges", laid_unicode_utf8_acceptRanges), ("unicode/utf8.first", laid_unicode_utf8_first)], narrowed := true }
def SlotPutsUptoSaid : Prop := slotPutsUptoRow.holds Tryd.pinned (OpenSpec.upto slotPutsSpec)

/-- 'pitheadlaw09.SlotTakes', WHERE WHAT IT READS IS OF BULK AT MOST 1048576: true; the input reads as it did. -/
def slotTakesUptoRow : OpenClaim := { program := "ytpgmbpjjefecdaadoor", sum := "18b4a23744b4c5ea04752dce865c35ab669eed6d9d571bc038b15ad496c8f539", func := "pithead/pitheadlaw09.SlotTakes", spec := "slotTakes", inPlace := ["internal/abi.NoEscape", "internal/bytealg.MakeNoZero", "internal/bytealg.IndexByteString", "internal/bytealg.IndexString"], unfollowed := true, recurses := true, named := ["unicode/utf8.first", "unicode/utf8.acceptRanges", "internal/bytealg.MaxLen"], apart := false, laid := [("unicode/utf8.acceptRanges", laid_unicode_utf8_acceptRanges), ("unicode/utf8.first", laid_unicode_utf8_first)], narrowed := true }
def SlotTakesUptoSaid : Prop := slotTakesUptoRow.holds Tryd.pinned (OpenSpec.upto slotTakesSpec)

/-- 'pitheadlaw09.SlotChooses', WHERE WHAT IT READS IS OF BULK AT MOST 1048576: true; the input reads as it did. -/
def slotChoosesUptoRow : OpenClaim := { program := "ytpgmbpjjefecdaadoor", sum := "18b4a23744b4c5ea04752dce865c35ab669eed6d9d571bc038b15ad496c8f539", func := "pithead/pitheadlaw09.SlotChooses", spec := "slotChooses", inPlace := ["internal/abi.NoEscape", "internal/bytealg.MakeNoZero", "internal/bytealg.IndexByteString", "internal/bytealg.IndexString"], unfollowed := true, recurses := true, named := ["unicode/utf8.first", "unicode/utf8.acceptRanges", "internal/bytealg.MaxLen"], apart := false, laid := [("unicode/utf8.acceptRanges", laid_unicode_utf8_acceptRanges), ("unicode/utf8.first", laid_unicode_utf8_first)], narrowed := true }
def SlotChoosesUptoSaid : Prop := slotChoosesUptoRow.holds Tryd.pinned (OpenSpec.upto slotChoosesSpec)

/-- 'pitheadlaw09.SlotTears', WHERE WHAT IT READS IS OF BULK AT MOST 1048576: true; the input reads as it did. -/
def slotTearsUptoRow : OpenClaim := { program := "ytpgmbpjjefecdaadoor", sum := "18b4a23744b4c5ea04752dce865c35ab669eed6d9d571bc038b15ad496c8f539", func := "pithead/pitheadlaw09.SlotTears", spec := "slotTears", inPlace := ["internal/abi.NoEscape", "internal/bytealg.MakeNoZero", "internal/bytealg.IndexByteString", "internal/bytealg.IndexString"], unfollowed := true, recurses := true, named := ["unicode/utf8.first", "unicode/utf8.acceptRanges", "internal/bytealg.MaxLen"], apart := false, laid := [("unicode/utf8.acceptRanges", laid_unicode_utf8_acceptRanges), ("unicode/utf8.first", laid_unicode_utf8_first)], narrowed := true }
def SlotTearsUptoSaid : Prop := slotTearsUptoRow.holds Tryd.pinned (OpenSpec.upto slotTearsSpec)

/-- 'pitheadlaw09.SlotAgain', WHERE WHAT IT READS IS OF BULK AT MOST 1048576: true; the input reads as it did. -/
def slotAgainUptoRow : OpenClaim := { program := "ytpgmbpjjefecdaadoor", sum := "18b4a23744b4c5ea04752dce865c35ab669eed6d9d571bc038b15ad496c8f539", func := "pithead/pitheadlaw09.SlotAgain", spec := "slotAgain", inPlace := ["internal/abi.NoEscape", "internal/bytealg.MakeNoZero", "internal/bytealg.IndexByteString", "internal/bytealg.IndexString"], unfollowed := true, recurses := true, named := ["unicode/utf8.first", "unicode/utf8.acceptRanges", "internal/bytealg.MaxLen"], apart := false, laid := [("unicode/utf8.acceptRanges", laid_unicode_utf8_acceptRanges), ("unicode/utf8.first", laid_unicode_utf8_first)], narrowed := true }
def SlotAgainUptoSaid : Prop := slotAgainUptoRow.holds Tryd.pinned (OpenSpec.upto slotAgainSpec)

end Rows
end Go.Proofs.YtpgmbpjjefecdaaDoor
