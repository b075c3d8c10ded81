/-
  DERIVED. GIVEN WITH THE SEED: THE CARDS: each row of YtibjlpkpljnicaaGreatDoorRows.lean that lists a variable, with what it lists TIED to the program's text (the seventh form; the later family's looks); each row that meets fmt, with fmt's text TOLD by the authors' own Lean function (tested against real Go, not proved from fmt's source: count such statements apart). THE CARD IS WHAT COUNTS. Prove the row's statement (the work); the ties are given (YtibjlpkpljnicaaGreatDoorTie.lean); close each card by the builder's one call (the guide's Derived/Test/ToyasCard.lean, 'card_holds'). Laid BY PROGRAM, IN A SANDBOX (cutbox-door.mjs). By AI agents, Wed Nov 11 2026. No macro, syntax, notation, axiom, sorry.
-/
import Derived.Test.YtibjlpkpljnicaaGreatDoorRows
import GoSem.ClaimSeven
namespace Go.Proofs.YtibjlpkpljnicaaGreatDoor
namespace Rows

/-- THE TIED CARD OF 'pitheadtop.TopQuery'. -/
def topQueryCard : Claim7 := { stood := { row := topQueryRow, standIns := [], harness := (true, "a5a811a430552f74f1e63639b54db38424a1a68b21ce3e6e74b635dff43c1e43"), looks := true }, kinds := [], alts := [], laidByText := true, laidKinds := [.data, .pinned], laidTests := true, laidLooks := .later }
def TopQueryCardSaid : Prop := Claim7.holds Tryz.pinned (.plain (OpenSpec.ofChange topQuerySpec)) topQueryCard

/-- THE TIED CARD OF 'pitheadtop.TopRoll'. -/
def topRollCard : Claim7 := { stood := { row := topRollRow, standIns := [], harness := (true, "a5a811a430552f74f1e63639b54db38424a1a68b21ce3e6e74b635dff43c1e43"), looks := true }, kinds := [], alts := [], laidByText := true, laidKinds := [.data, .pinned], laidTests := true, laidLooks := .later }
def TopRollCardSaid : Prop := Claim7.holds Tryz.pinned (.plain (OpenSpec.ofChange topRollSpec)) topRollCard

/-- THE SECOND FORM's CARD OF 'pitheadtop.TopQuery'. -/
def topQueryUptoCard : Claim7 := { stood := { row := topQueryUptoRow, standIns := [], harness := (true, "a5a811a430552f74f1e63639b54db38424a1a68b21ce3e6e74b635dff43c1e43"), looks := true }, kinds := [], alts := [], laidByText := true, laidKinds := [.data, .pinned], laidTests := true, laidLooks := .later }
def TopQueryUptoCardSaid : Prop := Claim7.holds Tryz.pinned (.plain (OpenSpec.upto topQuerySpec)) topQueryUptoCard

/-- THE SECOND FORM's CARD OF 'pitheadtop.TopRoll'. -/
def topRollUptoCard : Claim7 := { stood := { row := topRollUptoRow, standIns := [], harness := (true, "a5a811a430552f74f1e63639b54db38424a1a68b21ce3e6e74b635dff43c1e43"), looks := true }, kinds := [], alts := [], laidByText := true, laidKinds := [.data, .pinned], laidTests := true, laidLooks := .later }
def TopRollUptoCardSaid : Prop := Claim7.holds Tryz.pinned (.plain (OpenSpec.upto topRollSpec)) topRollUptoCard
end Rows
end Go.Proofs.YtibjlpkpljnicaaGreatDoor
