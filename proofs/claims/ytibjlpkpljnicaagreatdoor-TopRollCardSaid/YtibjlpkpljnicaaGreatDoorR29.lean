/- Parts. -/
import Derived.Test.YtibjlpkpljnicaaGreatDoorR22
import Derived.Deep.CutBlock
import Derived.Deep.CutRange
set_option maxRecDepth 100000
set_option maxHeartbeats 8000000
set_option linter.all false
namespace Go.Proofs.YtibjlpkpljnicaaGreatDoor
namespace Tc
open List Go.RowKit Base Go.Proofs.Tryz
end Tc
end Go.Proofs.YtibjlpkpljnicaaGreatDoor
