/- Words and contracts, part 22. -/
import Derived.Test.YtabjjdicffcolaaGreatDoorClaimJrootp21
import Derived.Test.YtabjjdicffcolaaGreatDoorCards
import Derived.Test.YtabjjdicffcolaaGreatDoorTie
import Derived.ProofKit
import Derived.Deep.DeepHandedRow
import Derived.Lib.LaidTab
set_option maxRecDepth 100000
set_option maxHeartbeats 0
namespace Go.Proofs.YtabjjdicffcolaaGreatDoor
open Go.ChangeShapes Go.WideShapes Go.RowKit
theorem own:ownKnob Tryz.prog.godebug=none:=by kernel_rfl
theorem Aoj : Tryz.prog.globalNamed "math/bits.deBruijn64tab" = some 0 := by kernel_rfl
theorem Af7:(Tryz.prog.globals[0]?).map (·.type)=some 183:=by kernel_rfl
theorem Afm:Tryz.prog.cellsOf 183=64:=by kernel_rfl
theorem Aiw:Tryz.prog.cellsOf 5=1:=by kernel_rfl
theorem Anm {W : World} (h : laidMetH Tryz.prog [("math/bits.deBruijn64tab", Rows.laid_math_bits_deBruijn64tab)] W) : Tab W := by
 have ht : Lib.TabIs Tryz.prog W "math/bits.deBruijn64tab" .u8 (Lib.deBruijn64tab.map Int.ofNat) :=
  Lib.tabIs_of_head (rest:=[]) Aoj Af7 Tryz.underlying183 Tryz.underlying5 Aiw Afm h
 intro j hj;have hl:j<(Lib.deBruijn64tab.map Int.ofNat).length:=by rw [List.length_map];exact hj
 have h1:=ht.cell Aoj j hl;rw [h1];have e:(Lib.deBruijn64tab.map Int.ofNat).getD j 0=((Lib.deBruijn64tab.getD j 0:Nat):Int):=by
  have hl':j<Lib.deBruijn64tab.length:=by simpa using hl
  simp [List.getD,hl']
 rw [e]
noncomputable def laidWorld (os:Os):World :=
 { World.holding Tryz.prog os ⟨#[],#[],[]⟩ with heap:=(World.holding Tryz.prog os ⟨#[],#[],[]⟩).heap.modify 0 fun
  | .cells _ t frozen=>.cells (Lib.deBruijn64tab.map fun n:Nat=>Value.int .u8 (n:Int)).toArray t frozen
  | o=>o }
theorem Ajj:laidOutB Tryz.prog=true:=by kernel_rfl
end Go.Proofs.YtabjjdicffcolaaGreatDoor
