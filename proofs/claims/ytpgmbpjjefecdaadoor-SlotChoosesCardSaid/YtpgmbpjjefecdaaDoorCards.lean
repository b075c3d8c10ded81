/-
  DERIVED. GIVEN WITH THE SEED: THE CARDS: each row of YtpgmbpjjefecdaaDoorRows.lean that lists a variable, with what it lists TIED to the program's text (the seventh form; the later family's looks); each row that meets fmt, with fmt's text TOLD by the authors' own Lean function (tested against real Go, not proved from fmt's source: count such statements apart). THE CARD IS WHAT COUNTS. Prove the row's statement (the work); the ties are given (YtpgmbpjjefecdaaDoorTie.lean); close each card by the builder's one call (the guide's Derived/Test/ToyasCard.lean, 'card_holds'). Laid BY PROGRAM, IN A SANDBOX (cutbox-door.mjs). By AI agents, Wed Nov 11 2026. No macro, syntax, notation, axiom, sorry.
-/
import Derived.Test.YtpgmbpjjefecdaaDoorRows
import GoSem.ClaimSeven
namespace Go.Proofs.YtpgmbpjjefecdaaDoor
namespace Rows

/-- THE TIED CARD OF 'pitheadlaw08.PagePuts'. -/
def pagePutsCard : Claim7 := { stood := { row := pagePutsRow, standIns := [], harness := (true, "81bf6ec00041508e459456d9b19fe2e5e6da408a33c4b31e46a4200a15e45767"), looks := true }, kinds := [], alts := [], laidByText := true, laidKinds := [.data, .pinned], laidTests := true, laidLooks := .later }
def PagePutsCardSaid : Prop := Claim7.holds Tryd.pinned (.plain (OpenSpec.ofChange pagePutsSpec)) pagePutsCard

/-- THE TIED CARD OF 'pitheadlaw08.PageTakes'. -/
def pageTakesCard : Claim7 := { stood := { row := pageTakesRow, standIns := [], harness := (true, "81bf6ec00041508e459456d9b19fe2e5e6da408a33c4b31e46a4200a15e45767"), looks := true }, kinds := [], alts := [], laidByText := true, laidKinds := [.data, .pinned], laidTests := true, laidLooks := .later }
def PageTakesCardSaid : Prop := Claim7.holds Tryd.pinned (.plain (OpenSpec.ofChange pageTakesSpec)) pageTakesCard

/-- THE TIED CARD OF 'pitheadlaw08.PageSplits'. -/
def pageSplitsCard : Claim7 := { stood := { row := pageSplitsRow, standIns := [], harness := (true, "81bf6ec00041508e459456d9b19fe2e5e6da408a33c4b31e46a4200a15e45767"), looks := true }, kinds := [], alts := [], laidByText := true, laidKinds := [.data, .pinned], laidTests := true, laidLooks := .later }
def PageSplitsCardSaid : Prop := Claim7.holds Tryd.pinned (.plain (OpenSpec.ofChange pageSplitsSpec)) pageSplitsCard

/-- THE TIED CARD OF 'pitheadlaw08.PageCounts'. -/
def pageCountsCard : Claim7 := { stood := { row := pageCountsRow, standIns := [], harness := (true, "81bf6ec00041508e459456d9b19fe2e5e6da408a33c4b31e46a4200a15e45767"), looks := true }, kinds := [], alts := [], laidByText := true, laidKinds := [.data, .pinned], laidTests := true, laidLooks := .later }
def PageCountsCardSaid : Prop := Claim7.holds Tryd.pinned (.plain (OpenSpec.ofChange pageCountsSpec)) pageCountsCard

/-- THE TIED CARD OF 'pitheadlaw09.SlotPuts'. -/
def slotPutsCard : Claim7 := { stood := { row := slotPutsRow, standIns := [], harness := (true, "81bf6ec00041508e459456d9b19fe2e5e6da408a33c4b31e46a4200a15e45767"), looks := true }, kinds := [], alts := [], laidByText := true, laidKinds := [.data, .pinned], laidTests := true, laidLooks := .later }
def SlotPutsCardSaid : Prop := Claim7.holds Tryd.pinned (.plain (OpenSpec.ofChange slotPutsSpec)) slotPutsCard

/-- THE TIED CARD OF 'pitheadlaw09.SlotTakes'. -/
def slotTakesCard : Claim7 := { stood := { row := slotTakesRow, standIns := [], harness := (true, "81bf6ec00041508e459456d9b19fe2e5e6da408a33c4b31e46a4200a15e45767"), looks := true }, kinds := [], alts := [], laidByText := true, laidKinds := [.data, .pinned], laidTests := true, laidLooks := .later }
def SlotTakesCardSaid : Prop := Claim7.holds Tryd.pinned (.plain (OpenSpec.ofChange slotTakesSpec)) slotTakesCard

/-- THE TIED CARD OF 'pitheadlaw09.SlotChooses'. -/
def slotChoosesCard : Claim7 := { stood := { row := slotChoosesRow, standIns := [], harness := (true, "81bf6ec00041508e459456d9b19fe2e5e6da408a33c4b31e46a4200a15e45767"), looks := true }, kinds := [], alts := [], laidByText := true, laidKinds := [.data, .pinned], laidTests := true, laidLooks := .later }
def SlotChoosesCardSaid : Prop := Claim7.holds Tryd.pinned (.plain (OpenSpec.ofChange slotChoosesSpec)) slotChoosesCard

/-- THE TIED CARD OF 'pitheadlaw09.SlotTears'. -/
def slotTearsCard : Claim7 := { stood := { row := slotTearsRow, standIns := [], harness := (true, "81bf6ec00041508e459456d9b19fe2e5e6da408a33c4b31e46a4200a15e45767"), looks := true }, kinds := [], alts := [], laidByText := true, laidKinds := [.data, .pinned], laidTests := true, laidLooks := .later }
def SlotTearsCardSaid : Prop := Claim7.holds Tryd.pinned (.plain (OpenSpec.ofChange slotTearsSpec)) slotTearsCard

/-- THE TIED CARD OF 'pitheadlaw09.SlotAgain'. -/
def slotAgainCard : Claim7 := { stood := { row := slotAgainRow, standIns := [], harness := (true, "81bf6ec00041508e459456d9b19fe2e5e6da408a33c4b31e46a4200a15e45767"), looks := true }, kinds := [], alts := [], laidByText := true, laidKinds := [.data, .pinned], laidTests := true, laidLooks := .later }
def SlotAgainCardSaid : Prop := Claim7.holds Tryd.pinned (.plain (OpenSpec.ofChange slotAgainSpec)) slotAgainCard

/-- THE SECOND FORM's CARD OF 'pitheadlaw08.PagePuts'. -/
def pagePutsUptoCard : Claim7 := { stood := { row := pagePutsUptoRow, standIns := [], harness := (true, "81bf6ec00041508e459456d9b19fe2e5e6da408a33c4b31e46a4200a15e45767"), looks := true }, kinds := [], alts := [], laidByText := true, laidKinds := [.data, .pinned], laidTests := true, laidLooks := .later }
def PagePutsUptoCardSaid : Prop := Claim7.holds Tryd.pinned (.plain (OpenSpec.upto pagePutsSpec)) pagePutsUptoCard

/-- THE SECOND FORM's CARD OF 'pitheadlaw08.PageTakes'. -/
def pageTakesUptoCard : Claim7 := { stood := { row := pageTakesUptoRow, standIns := [], harness := (true, "81bf6ec00041508e459456d9b19fe2e5e6da408a33c4b31e46a4200a15e45767"), looks := true }, kinds := [], alts := [], laidByText := true, laidKinds := [.data, .pinned], laidTests := true, laidLooks := .later }
def PageTakesUptoCardSaid : Prop := Claim7.holds Tryd.pinned (.plain (OpenSpec.upto pageTakesSpec)) pageTakesUptoCard

/-- THE SECOND FORM's CARD OF 'pitheadlaw08.PageSplits'. -/
def pageSplitsUptoCard : Claim7 := { stood := { row := pageSplitsUptoRow, standIns := [], harness := (true, "81bf6ec00041508e459456d9b19fe2e5e6da408a33c4b31e46a4200a15e45767"), looks := true }, kinds := [], alts := [], laidByText := true, laidKinds := [.data, .pinned], laidTests := true, laidLooks := .later }
def PageSplitsUptoCardSaid : Prop := Claim7.holds Tryd.pinned (.plain (OpenSpec.upto pageSplitsSpec)) pageSplitsUptoCard

/-- THE SECOND FORM's CARD OF 'pitheadlaw08.PageCounts'. -/
def pageCountsUptoCard : Claim7 := { stood := { row := pageCountsUptoRow, standIns := [], harness := (true, "81bf6ec00041508e459456d9b19fe2e5e6da408a33c4b31e46a4200a15e45767"), looks := true }, kinds := [], alts := [], laidByText := true, laidKinds := [.data, .pinned], laidTests := true, laidLooks := .later }
def PageCountsUptoCardSaid : Prop := Claim7.holds Tryd.pinned (.plain (OpenSpec.upto pageCountsSpec)) pageCountsUptoCard

/-- THE SECOND FORM's CARD OF 'pitheadlaw09.SlotPuts'. -/
def slotPutsUptoCard : Claim7 := { stood := { row := slotPutsUptoRow, standIns := [], harness := (true, "81bf6ec00041508e459456d9b19fe2e5e6da408a33c4b31e46a4200a15e45767"), looks := true }, kinds := [], alts := [], laidByText := true, laidKinds := [.data, .pinned], laidTests := true, laidLooks := .later }
def SlotPutsUptoCardSaid : Prop := Claim7.holds Tryd.pinned (.plain (OpenSpec.upto slotPutsSpec)) slotPutsUptoCard

/-- THE SECOND FORM's CARD OF 'pitheadlaw09.SlotTakes'. -/
def slotTakesUptoCard : Claim7 := { stood := { row := slotTakesUptoRow, standIns := [], harness := (true, "81bf6ec00041508e459456d9b19fe2e5e6da408a33c4b31e46a4200a15e45767"), looks := true }, kinds := [], alts := [], laidByText := true, laidKinds := [.data, .pinned], laidTests := true, laidLooks := .later }
def SlotTakesUptoCardSaid : Prop := Claim7.holds Tryd.pinned (.plain (OpenSpec.upto slotTakesSpec)) slotTakesUptoCard

/-- THE SECOND FORM's CARD OF 'pitheadlaw09.SlotChooses'. -/
def slotChoosesUptoCard : Claim7 := { stood := { row := slotChoosesUptoRow, standIns := [], harness := (true, "81bf6ec00041508e459456d9b19fe2e5e6da408a33c4b31e46a4200a15e45767"), looks := true }, kinds := [], alts := [], laidByText := true, laidKinds := [.data, .pinned], laidTests := true, laidLooks := .later }
def SlotChoosesUptoCardSaid : Prop := Claim7.holds Tryd.pinned (.plain (OpenSpec.upto slotChoosesSpec)) slotChoosesUptoCard

/-- THE SECOND FORM's CARD OF 'pitheadlaw09.SlotTears'. -/
def slotTearsUptoCard : Claim7 := { stood := { row := slotTearsUptoRow, standIns := [], harness := (true, "81bf6ec00041508e459456d9b19fe2e5e6da408a33c4b31e46a4200a15e45767"), looks := true }, kinds := [], alts := [], laidByText := true, laidKinds := [.data, .pinned], laidTests := true, laidLooks := .later }
def SlotTearsUptoCardSaid : Prop := Claim7.holds Tryd.pinned (.plain (OpenSpec.upto slotTearsSpec)) slotTearsUptoCard

/-- THE SECOND FORM's CARD OF 'pitheadlaw09.SlotAgain'. -/
def slotAgainUptoCard : Claim7 := { stood := { row := slotAgainUptoRow, standIns := [], harness := (true, "81bf6ec00041508e459456d9b19fe2e5e6da408a33c4b31e46a4200a15e45767"), looks := true }, kinds := [], alts := [], laidByText := true, laidKinds := [.data, .pinned], laidTests := true, laidLooks := .later }
def SlotAgainUptoCardSaid : Prop := Claim7.holds Tryd.pinned (.plain (OpenSpec.upto slotAgainSpec)) slotAgainUptoCard
end Rows
end Go.Proofs.YtpgmbpjjefecdaaDoor
