/- Words and contracts, part 43. -/
import Derived.Test.YtabjjdicffcolaaGreatDoorClaimJrootp42
set_option maxRecDepth 100000
set_option maxHeartbeats 0
namespace Go.Proofs.YtabjjdicffcolaaGreatDoor
open Go.RowKit
set_option maxRecDepth 100000
theorem Ao7:exA 8=true:=by decide +kernel
theorem Ao8:exA 9=true:=by decide +kernel
theorem Aoa:exA 10=true:=by decide +kernel
end Go.Proofs.YtabjjdicffcolaaGreatDoor
