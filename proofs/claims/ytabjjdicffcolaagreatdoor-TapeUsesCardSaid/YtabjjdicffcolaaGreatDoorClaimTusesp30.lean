/- What an argument that is a slice of integers reads as; the types of the rows' arguments. -/
import Derived.Test.YtabjjdicffcolaaGreatDoorClaimTusesp21
import Derived.Test.YtabjjdicffcolaaGreatDoorClaimTusesp29
set_option maxRecDepth 100000
set_option maxHeartbeats 16000000
namespace Go.Proofs.YtabjjdicffcolaaGreatDoor
open Go.ChangeShapes Go.WideShapes Go.RowKit
section
variable {H:Type} {enc:TypeId × Value→H} {w:World} {base:Nat} {spare:Nat→Bool} {held:Bool}
end
end Go.Proofs.YtabjjdicffcolaaGreatDoor
