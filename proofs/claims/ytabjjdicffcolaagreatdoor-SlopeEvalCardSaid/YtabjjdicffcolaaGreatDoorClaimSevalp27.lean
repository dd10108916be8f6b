/- Words and contracts, part 27. -/
import Derived.Test.YtabjjdicffcolaaGreatDoorClaimSevalp21
import Derived.Test.YtabjjdicffcolaaGreatDoorClaimSevalp26
set_option maxRecDepth 100000
set_option maxHeartbeats 0
namespace Go.Proofs.YtabjjdicffcolaaGreatDoor
open Go.ChangeShapes Go.WideShapes Go.RowKit
section
variable {H:Type} {enc:TypeId × Value→H} {w:World} {base:Nat} {spare:Nat→Bool} {held:Bool}
end
end Go.Proofs.YtabjjdicffcolaaGreatDoor
