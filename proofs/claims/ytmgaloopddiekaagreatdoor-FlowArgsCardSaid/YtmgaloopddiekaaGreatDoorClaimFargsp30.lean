/- Words and contracts, part 30. -/
import Derived.Test.YtmgaloopddiekaaGreatDoorClaimFargsp23
import Derived.Test.YtmgaloopddiekaaGreatDoorClaimFargsp29
set_option maxRecDepth 100000
set_option maxHeartbeats 0
namespace Go.Proofs.YtmgaloopddiekaaGreatDoor
open Go.ChangeShapes Go.WideShapes Go.RowKit
section
variable {H:Type} {enc:TypeId × Value→H} {w:World} {base:Nat} {spare:Nat→Bool} {held:Bool}
end
end Go.Proofs.YtmgaloopddiekaaGreatDoor
