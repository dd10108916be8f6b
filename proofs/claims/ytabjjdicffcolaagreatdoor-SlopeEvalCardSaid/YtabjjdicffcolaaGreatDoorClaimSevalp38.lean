/- Words and contracts, part 38. -/
import Derived.Test.YtabjjdicffcolaaGreatDoorClaimSevalp36
import Derived.Test.YtabjjdicffcolaaGreatDoorClaimSevalp37
set_option maxRecDepth 100000
set_option maxHeartbeats 0
namespace Go.Proofs.YtabjjdicffcolaaGreatDoor
open Go.Lib
end Go.Proofs.YtabjjdicffcolaaGreatDoor
