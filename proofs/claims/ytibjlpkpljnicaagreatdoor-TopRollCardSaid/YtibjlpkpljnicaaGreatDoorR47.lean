/- Parts. -/
import Derived.Test.YtibjlpkpljnicaaGreatDoorR03
import Derived.Test.YtibjlpkpljnicaaGreatDoorR30
import Derived.StillTailTactics
set_option maxRecDepth 100000
set_option maxHeartbeats 8000000
set_option linter.all false
namespace Go.Proofs.YtibjlpkpljnicaaGreatDoor
end Go.Proofs.YtibjlpkpljnicaaGreatDoor
