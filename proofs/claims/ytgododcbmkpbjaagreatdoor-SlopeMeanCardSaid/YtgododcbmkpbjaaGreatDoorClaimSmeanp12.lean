/- Contracts of package nat, fourth part: padded, short, digit, QuoRem, Square. -/
import Derived.Test.YtgododcbmkpbjaaGreatDoorClaimSmeanp08
import Derived.Test.YtgododcbmkpbjaaGreatDoorClaimSmeanp09
import Derived.Test.YtgododcbmkpbjaaGreatDoorClaimSmeanp11
set_option maxRecDepth 100000
set_option maxHeartbeats 16000000
namespace Go.Proofs.YtgododcbmkpbjaaGreatDoor
open Go.RowKit
theorem lim_one {w : World} {g : Nat} {x : Nat} (hx : x < 18446744073709551616) (hg : g < w.heap.size) (hc : w.cell? ⟨g, 0, none⟩ = some (.int .u64 x)) (c : Nat) (hc1 : 1 ≤ c) : Lim w (.slice (some ⟨g, 0, none⟩) 1 c) [x] := by
 refine ⟨fun y hy => ?_, some ⟨g, 0, none⟩, c, rfl, hc1, fun _ => ⟨g, 0, rfl, hg, fun i hi => ?_⟩⟩
 ·rw [List.mem_singleton.1 hy]; exact hx
 ·obtain rfl : i = 0 := by simp at hi; omega
  exact hc
end Go.Proofs.YtgododcbmkpbjaaGreatDoor
