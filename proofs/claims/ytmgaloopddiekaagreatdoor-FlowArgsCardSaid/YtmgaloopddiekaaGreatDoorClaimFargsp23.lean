/- Words and contracts, part 23. -/
import Derived.Test.YtmgaloopddiekaaGreatDoorClaimFargsp22
import Derived.Test.YtmgaloopddiekaaGreatDoorCards
import Derived.Test.YtmgaloopddiekaaGreatDoorTie
import Derived.ProofKit
import Derived.Deep.DeepHandedRow
import Derived.Lib.LaidTab
set_option maxRecDepth 100000
set_option maxHeartbeats 0
namespace Go.Proofs.YtmgaloopddiekaaGreatDoor
open Go.ChangeShapes Go.WideShapes Go.RowKit
theorem own:ownKnob Tryz.prog.godebug=none:=by kernel_rfl
theorem Ajh : Tryz.prog.globalNamed "math/bits.deBruijn64tab" = some 0 := by kernel_rfl
theorem Ab6:(Tryz.prog.globals[0]?).map (·.type)=some 187:=by kernel_rfl
theorem Abk:Tryz.prog.cellsOf 187=64:=by kernel_rfl
theorem Ae6:Tryz.prog.cellsOf 5=1:=by kernel_rfl
theorem Ail {W : World} (h : laidMetH Tryz.prog [("math/bits.deBruijn64tab", Rows.laid_math_bits_deBruijn64tab)] W) : Tab W := by
 have ht : Lib.TabIs Tryz.prog W "math/bits.deBruijn64tab" .u8 (Lib.deBruijn64tab.map Int.ofNat) :=
  Lib.tabIs_of_head (rest:=[]) Ajh Ab6 Tryz.underlying187 Tryz.underlying5 Ae6 Abk h
 intro j hj;have hl:j<(Lib.deBruijn64tab.map Int.ofNat).length:=by rw [List.length_map];exact hj
 have h1:=ht.cell Ajh j hl;rw [h1];have e:(Lib.deBruijn64tab.map Int.ofNat).getD j 0=((Lib.deBruijn64tab.getD j 0:Nat):Int):=by
  have hl':j<Lib.deBruijn64tab.length:=by simpa using hl
  simp [List.getD,hl']
 rw [e]
noncomputable def laidWorld (os:Os):World :=
 { World.holding Tryz.prog os ⟨#[],#[],[]⟩ with heap:=(World.holding Tryz.prog os ⟨#[],#[],[]⟩).heap.modify 0 fun
  | .cells _ t frozen=>.cells (Lib.deBruijn64tab.map fun n:Nat=>Value.int .u8 (n:Int)).toArray t frozen
  | o=>o }
theorem Afr:laidOutB Tryz.prog=true:=by kernel_rfl
theorem Ib {H:Type}{ts us:List TypeId}{ds gs:List (DataW H)}(h:(DataW.weightsEach Tryz.prog (ts++us) (ds++gs)).all (·≤reachBytes)=true){j:Nat}{t:TypeId}{d:DataW H}(ht:ts[j]?=some t)(hd:ds[j]?=some d) :
 ∀ n∈d.weights Tryz.prog t,n≤reachBytes:=by
 intro n hn;have h1:(ts++us)[j]?=some t:=by rw [List.getElem?_append_left (List.getElem?_eq_some_iff.1 ht).1];exact ht
 have h2:(ds++gs)[j]?=some d:=by rw [List.getElem?_append_left (List.getElem?_eq_some_iff.1 hd).1];exact hd
 have:=List.all_eq_true.1 h n (DataW.weights_mem_each h1 h2 n hn);simpa using this
end Go.Proofs.YtmgaloopddiekaaGreatDoor
