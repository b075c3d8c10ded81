/- Parts of a proof. -/
import Derived.Test.YtibjlpkpljnicaaGreatDoorL04
import Derived.Test.YtibjlpkpljnicaaGreatDoorL31
import Derived.StillTailTactics
set_option maxRecDepth 100000
set_option maxHeartbeats 8000000
set_option linter.all false
namespace Go.Proofs.YtibjlpkpljnicaaGreatDoor
end Go.Proofs.YtibjlpkpljnicaaGreatDoor
