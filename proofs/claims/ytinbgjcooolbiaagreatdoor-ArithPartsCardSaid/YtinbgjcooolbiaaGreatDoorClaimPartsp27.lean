/- Words and contracts, part 27. -/
import Derived.Test.YtinbgjcooolbiaaGreatDoorClaimPartsp26
import Derived.Test.YtinbgjcooolbiaaGreatDoorCards
import Derived.Test.YtinbgjcooolbiaaGreatDoorTie
import Derived.ProofKit
import Derived.Deep.DeepHandedRow
import Derived.Lib.LaidTab
set_option maxRecDepth 100000
set_option maxHeartbeats 0
namespace Go.Proofs.YtinbgjcooolbiaaGreatDoor
open Go.ChangeShapes Go.WideShapes Go.RowKit
theorem own:ownKnob Tryz.prog.godebug=none:=by kernel_rfl
theorem Adh : Tryz.prog.globalNamed "math/bits.deBruijn64tab" = some 2 := by kernel_rfl
theorem W0:(Tryz.prog.globals[2]?).map (·.type)=some 119:=by kernel_rfl
theorem Wc:Tryz.prog.cellsOf 119=64:=by kernel_rfl
theorem Zm:Tryz.prog.cellsOf 5=1:=by kernel_rfl
theorem Acr {W : World} (h : laidMetH Tryz.prog [("math/bits.deBruijn64tab", Rows.laid_math_bits_deBruijn64tab)] W) : Tab W := by
 have ht : Lib.TabIs Tryz.prog W "math/bits.deBruijn64tab" .u8 (Lib.deBruijn64tab.map Int.ofNat) :=
  Lib.tabIs_of_head (rest:=[]) Adh W0 Tryz.underlying119 Tryz.underlying5 Zm Wc h
 intro j hj;have hl:j<(Lib.deBruijn64tab.map Int.ofNat).length:=by rw [List.length_map];exact hj
 have h1:=ht.cell Adh j hl;rw [h1];have e:(Lib.deBruijn64tab.map Int.ofNat).getD j 0=((Lib.deBruijn64tab.getD j 0:Nat):Int):=by
  have hl':j<Lib.deBruijn64tab.length:=by simpa using hl
  simp [List.getD,hl']
 rw [e]
noncomputable def laidWorld (os:Os):World :=
 { World.holding Tryz.prog os ⟨#[],#[],[]⟩ with heap:=(World.holding Tryz.prog os ⟨#[],#[],[]⟩).heap.modify 2 fun
  | .cells _ t frozen=>.cells (Lib.deBruijn64tab.map fun n:Nat=>Value.int .u8 (n:Int)).toArray t frozen
  | o=>o }
theorem Yn:∀ t∈[26,24,3],Tryz.prog.readableRec t=true∧t<Tryz.prog.types.size:=by
 intro t ht;simp only [List.mem_cons,List.not_mem_nil,or_false] at ht;rcases ht with rfl | rfl | rfl
 ·exact ⟨by kernel_rfl,of_decide_eq_true (by kernel_rfl)⟩
 ·exact ⟨by kernel_rfl,of_decide_eq_true (by kernel_rfl)⟩
 ·exact ⟨by kernel_rfl,of_decide_eq_true (by kernel_rfl)⟩
theorem Z0:laidOutB Tryz.prog=true:=by kernel_rfl
theorem Og {H:Type}{ts us:List TypeId}{ds gs:List (DataW H)}(h:(DataW.weightsEach Tryz.prog (ts++us) (ds++gs)).all (·≤reachBytes)=true){j:Nat}{t:TypeId}{d:DataW H}(ht:ts[j]?=some t)(hd:ds[j]?=some d) :
 ∀ n∈d.weights Tryz.prog t,n≤reachBytes:=by
 intro n hn;have h1:(ts++us)[j]?=some t:=by rw [List.getElem?_append_left (List.getElem?_eq_some_iff.1 ht).1];exact ht
 have h2:(ds++gs)[j]?=some d:=by rw [List.getElem?_append_left (List.getElem?_eq_some_iff.1 hd).1];exact hd
 have:=List.all_eq_true.1 h n (DataW.weights_mem_each h1 h2 n hn);simpa using this
end Go.Proofs.YtinbgjcooolbiaaGreatDoor
