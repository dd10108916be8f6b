/- Words and contracts, part 45. -/
import Derived.Test.YtabjjdicffcolaaGreatDoorClaimJrootp42
set_option maxRecDepth 100000
set_option maxHeartbeats 0
namespace Go.Proofs.YtabjjdicffcolaaGreatDoor
open Go.RowKit
set_option maxRecDepth 100000
theorem Aoe:exA 14=true:=by decide +kernel
theorem Aof:exA 15=true:=by decide +kernel
theorem Aog:exA 16=true:=by decide +kernel
end Go.Proofs.YtabjjdicffcolaaGreatDoor
