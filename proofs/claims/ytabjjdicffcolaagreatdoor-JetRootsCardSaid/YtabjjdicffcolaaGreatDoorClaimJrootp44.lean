/- Words and contracts, part 44. -/
import Derived.Test.YtabjjdicffcolaaGreatDoorClaimJrootp42
set_option maxRecDepth 100000
set_option maxHeartbeats 0
namespace Go.Proofs.YtabjjdicffcolaaGreatDoor
open Go.RowKit
set_option maxRecDepth 100000
theorem Aob:exA 11=true:=by decide +kernel
theorem Aoc:exA 12=true:=by decide +kernel
theorem Aod:exA 13=true:=by decide +kernel
end Go.Proofs.YtabjjdicffcolaaGreatDoor
