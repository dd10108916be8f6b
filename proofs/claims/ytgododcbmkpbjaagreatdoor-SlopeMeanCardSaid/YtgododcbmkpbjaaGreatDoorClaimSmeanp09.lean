/- A law of no program: append(v, make([]T, m)...) where the call owns v. -/
import Derived.Lib.AppendZerosOnto
import Derived.Laws.OwnMore
import Derived.WalkKit
set_option maxRecDepth 100000
set_option maxHeartbeats 16000000
namespace Go.Proofs.YtgododcbmkpbjaaGreatDoor
open Go.Lib Go.RowKit
section
variable {P : Program} (w : World)
end
end Go.Proofs.YtgododcbmkpbjaaGreatDoor
