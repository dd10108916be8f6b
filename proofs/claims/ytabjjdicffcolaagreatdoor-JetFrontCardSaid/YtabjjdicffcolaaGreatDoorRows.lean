/-
  NARROWER THAN 'FOR EVERY INPUT', by the rows' own cells (each row's printed sentence says how): SlopeHolds: laid · SlopeEval: laid · JetRoots: laid · JetFront: laid · TapeFront: laid · TapeUses: laid · TapeBits: laid · TapeHolds: laid.
  DERIVED. THE GIVEN ROWS OF THIS SEAT. 8 by the template 'for every input the law returns true; each argument reads behind the call as it read before'; 0 by the template 'total and deterministic' (their statements: YtabjjdicffcolaaGreatDoorTotals.lean).
  GIVEN WITH THE SEED: the statements are not yours to turn. If you find one false, say at which input.
  Laid BY PROGRAM, IN A SANDBOX (cutbox-rows.mjs): the forced cells as the released guide's own fill.sh prints them over the translation 1dc84f5637e5324c… (all of the seat's roots in one cut). By AI agents, Wed Nov 11 2026. No macro, syntax, notation, axiom, sorry.
-/
import Derived.Test.YtabjjdicffcolaaGreatDoorChecked
import GoSem.Claim
import GoSem.ClaimJoined
import GoSem.ClaimMapViews
import Derived.JoinedTies
import Derived.KernelRfl
namespace Go.Proofs.YtabjjdicffcolaaGreatDoor
/- THE CELL 'sum', in the pinned program and in every row, IS THE sha256 OF THE DUMP (.gsa) THAT YtabjjdicffcolaaGreatDoorProg.lean LOADS. Nothing in Lean hashes anything: it is a label: what it is worth is what the hold of that sum in a sandbox is worth. -/
noncomputable def Tryz.pinned : Pinned := { name := "ytabjjdicffcolaagreatdoor", sum := "1dc84f5637e5324caad5d0c34ba61f91ba600fb79e7a7dd880808f56e0fb30d6", checked := Tryz.checked }
namespace Rows
def none {H : Type} : Left H := { results := [], args := [] }

/- WHAT THE LISTED PACKAGE-LEVEL VARIABLES READ AS WHEN THE CALL BEGINS. Each datum BY PROGRAM (the guide's laid-datum.mjs) off the statement by which the dump's own 'gosem.cut.vars' lays the variable. In a bare row this is a premise. The card (YtabjjdicffcolaaGreatDoorCards.lean) ties it to the program's text. -/
def laid_math_bits_deBruijn64tab {H : Type} : DataW H := .agg [.lit (.int .u8 0), .lit (.int .u8 1), .lit (.int .u8 56), .lit (.int .u8 2), .lit (.int .u8 57), .lit (.int .u8 49), .lit (.int .u8 28), .lit (.int .u8 3), .lit (.int .u8 61), .lit (.int .u8 58), .lit (.int .u8 42), .lit (.int .u8 50), .lit (.int .u8 38), .lit (.int .u8 29), .lit (.int .u8 17), .lit (.int .u8 4), .lit (.int .u8 62), .lit (.int .u8 47), .lit (.int .u8 59), .lit (.int .u8 36), .lit (.int .u8 45), .lit (.int .u8 43), .lit (.int .u8 51), .lit (.int .u8 22), .lit (.int .u8 53), .lit (.int .u8 39), .lit (.int .u8 33), .lit (.int .u8 30), .lit (.int .u8 24), .lit (.int .u8 18), .lit (.int .u8 12), .lit (.int .u8 5), .lit (.int .u8 63), .lit (.int .u8 55), .lit (.int .u8 48), .lit (.int .u8 27), .lit (.int .u8 60), .lit (.int .u8 41), .lit (.int .u8 37), .lit (.int .u8 16), .lit (.int .u8 46), .lit (.int .u8 35), .lit (.int .u8 44), .lit (.int .u8 21), .lit (.int .u8 52), .lit (.int .u8 32), .lit (.int .u8 23), .lit (.int .u8 11), .lit (.int .u8 54), .lit (.int .u8 26), .lit (.int .u8 40), .lit (.int .u8 15), .lit (.int .u8 34), .lit (.int .u8 20), .lit (.int .u8 31), .lit (.int .u8 10), .lit (.int .u8 25), .lit (.int .u8 14), .lit (.int .u8 19), .lit (.int .u8 9), .lit (.int .u8 13), .lit (.int .u8 8), .lit (.int .u8 7), .lit (.int .u8 6)]

/-- 'sluicewaylaw10.SlopeHolds': WHATEVER THE INPUT: true; the input reads as it did. -/
def slopeHoldsSpec : ChangeSpec := { name := "slopeHolds", fn := fun _ => fun
  | [d1, d2, d3, d4] => { results := [.lit (.bool true)], args := [d1, d2, d3, d4] }
  | _ => none }
def slopeHoldsRow : OpenClaim := { program := "ytabjjdicffcolaagreatdoor", sum := "1dc84f5637e5324caad5d0c34ba61f91ba600fb79e7a7dd880808f56e0fb30d6", func := "sluiceway/sluicewaylaw10.SlopeHolds", spec := "slopeHolds", inPlace := ["math/bits.Add64", "math/bits.Sub64"], unfollowed := true, recurses := true, named := ["math/bits.deBruijn64tab", "math/bits.divideError", "math/bits.overflowError"], apart := false, laid := [("math/bits.deBruijn64tab", laid_math_bits_deBruijn64tab)] }
def SlopeHoldsSaid : Prop := slopeHoldsRow.holds Tryz.pinned (OpenSpec.ofChange slopeHoldsSpec)

/-- ITS FALSE NEIGHBOUR: 'it returns false'. Refute it at one input. -/
def slopeHoldsWrong : ChangeSpec := { name := "slopeHolds", fn := fun _ => fun
  | [d1, d2, d3, d4] => { results := [.lit (.bool false)], args := [d1, d2, d3, d4] }
  | _ => none }
def SlopeHoldsWrongFalsely : Prop := slopeHoldsRow.holds Tryz.pinned (OpenSpec.ofChange slopeHoldsWrong)

/-- 'sluicewaylaw10.SlopeEval': WHATEVER THE INPUT: true; the input reads as it did. -/
def slopeEvalSpec : ChangeSpec := { name := "slopeEval", fn := fun _ => fun
  | [d1, d2, d3] => { results := [.lit (.bool true)], args := [d1, d2, d3] }
  | _ => none }
def slopeEvalRow : OpenClaim := { program := "ytabjjdicffcolaagreatdoor", sum := "1dc84f5637e5324caad5d0c34ba61f91ba600fb79e7a7dd880808f56e0fb30d6", func := "sluiceway/sluicewaylaw10.SlopeEval", spec := "slopeEval", inPlace := ["math/bits.Add64", "math/bits.Sub64"], unfollowed := true, recurses := true, named := ["math/bits.deBruijn64tab", "math/bits.divideError", "math/bits.overflowError"], apart := false, laid := [("math/bits.deBruijn64tab", laid_math_bits_deBruijn64tab)] }
def SlopeEvalSaid : Prop := slopeEvalRow.holds Tryz.pinned (OpenSpec.ofChange slopeEvalSpec)

/-- ITS FALSE NEIGHBOUR: 'it returns false'. Refute it at one input. -/
def slopeEvalWrong : ChangeSpec := { name := "slopeEval", fn := fun _ => fun
  | [d1, d2, d3] => { results := [.lit (.bool false)], args := [d1, d2, d3] }
  | _ => none }
def SlopeEvalWrongFalsely : Prop := slopeEvalRow.holds Tryz.pinned (OpenSpec.ofChange slopeEvalWrong)

/-- 'sluicewaylaw9.JetRoots': WHATEVER THE INPUT: true; the input reads as it did. -/
def jetRootsSpec : ChangeSpec := { name := "jetRoots", fn := fun _ => fun
  | [d1, d2] => { results := [.lit (.bool true)], args := [d1, d2] }
  | _ => none }
def jetRootsRow : OpenClaim := { program := "ytabjjdicffcolaagreatdoor", sum := "1dc84f5637e5324caad5d0c34ba61f91ba600fb79e7a7dd880808f56e0fb30d6", func := "sluiceway/sluicewaylaw9.JetRoots", spec := "jetRoots", inPlace := ["math/bits.Add64", "math/bits.Sub64"], unfollowed := true, recurses := true, named := ["math/bits.deBruijn64tab", "math/bits.divideError", "math/bits.overflowError"], apart := false, laid := [("math/bits.deBruijn64tab", laid_math_bits_deBruijn64tab)] }
def JetRootsSaid : Prop := jetRootsRow.holds Tryz.pinned (OpenSpec.ofChange jetRootsSpec)

/-- ITS FALSE NEIGHBOUR: 'it returns false'. Refute it at one input. -/
def jetRootsWrong : ChangeSpec := { name := "jetRoots", fn := fun _ => fun
  | [d1, d2] => { results := [.lit (.bool false)], args := [d1, d2] }
  | _ => none }
def JetRootsWrongFalsely : Prop := jetRootsRow.holds Tryz.pinned (OpenSpec.ofChange jetRootsWrong)

/-- 'sluicewaylaw9.JetFront': WHATEVER THE INPUT: true; the input reads as it did. -/
def jetFrontSpec : ChangeSpec := { name := "jetFront", fn := fun _ => fun
  | [d1, d2, d3, d4, d5, d6, d7] => { results := [.lit (.bool true)], args := [d1, d2, d3, d4, d5, d6, d7] }
  | _ => none }
def jetFrontRow : OpenClaim := { program := "ytabjjdicffcolaagreatdoor", sum := "1dc84f5637e5324caad5d0c34ba61f91ba600fb79e7a7dd880808f56e0fb30d6", func := "sluiceway/sluicewaylaw9.JetFront", spec := "jetFront", inPlace := ["math/bits.Add64", "math/bits.Sub64"], unfollowed := true, recurses := true, named := ["math/bits.deBruijn64tab", "math/bits.divideError", "math/bits.overflowError"], apart := false, laid := [("math/bits.deBruijn64tab", laid_math_bits_deBruijn64tab)] }
def JetFrontSaid : Prop := jetFrontRow.holds Tryz.pinned (OpenSpec.ofChange jetFrontSpec)

/-- ITS FALSE NEIGHBOUR: 'it returns false'. Refute it at one input. -/
def jetFrontWrong : ChangeSpec := { name := "jetFront", fn := fun _ => fun
  | [d1, d2, d3, d4, d5, d6, d7] => { results := [.lit (.bool false)], args := [d1, d2, d3, d4, d5, d6, d7] }
  | _ => none }
def JetFrontWrongFalsely : Prop := jetFrontRow.holds Tryz.pinned (OpenSpec.ofChange jetFrontWrong)

/-- 'sluicewaylaw8.TapeFront': WHATEVER THE INPUT: true; the input reads as it did. -/
def tapeFrontSpec : ChangeSpec := { name := "tapeFront", fn := fun _ => fun
  | [d1, d2, d3, d4] => { results := [.lit (.bool true)], args := [d1, d2, d3, d4] }
  | _ => none }
def tapeFrontRow : OpenClaim := { program := "ytabjjdicffcolaagreatdoor", sum := "1dc84f5637e5324caad5d0c34ba61f91ba600fb79e7a7dd880808f56e0fb30d6", func := "sluiceway/sluicewaylaw8.TapeFront", spec := "tapeFront", inPlace := ["math/bits.Add64", "math/bits.Sub64"], unfollowed := true, recurses := true, named := ["math/bits.deBruijn64tab", "math/bits.divideError", "math/bits.overflowError"], apart := false, laid := [("math/bits.deBruijn64tab", laid_math_bits_deBruijn64tab)] }
def TapeFrontSaid : Prop := tapeFrontRow.holds Tryz.pinned (OpenSpec.ofChange tapeFrontSpec)

/-- ITS FALSE NEIGHBOUR: 'it returns false'. Refute it at one input. -/
def tapeFrontWrong : ChangeSpec := { name := "tapeFront", fn := fun _ => fun
  | [d1, d2, d3, d4] => { results := [.lit (.bool false)], args := [d1, d2, d3, d4] }
  | _ => none }
def TapeFrontWrongFalsely : Prop := tapeFrontRow.holds Tryz.pinned (OpenSpec.ofChange tapeFrontWrong)

/-- 'sluicewaylaw8.TapeUses': WHATEVER THE INPUT: true; the input reads as it did. -/
def tapeUsesSpec : ChangeSpec := { name := "tapeUses", fn := fun _ => fun
  | [d1, d2, d3, d4, d5] => { results := [.lit (.bool true)], args := [d1, d2, d3, d4, d5] }
  | _ => none }
def tapeUsesRow : OpenClaim := { program := "ytabjjdicffcolaagreatdoor", sum := "1dc84f5637e5324caad5d0c34ba61f91ba600fb79e7a7dd880808f56e0fb30d6", func := "sluiceway/sluicewaylaw8.TapeUses", spec := "tapeUses", inPlace := ["math/bits.Add64", "math/bits.Sub64"], unfollowed := true, recurses := true, named := ["math/bits.deBruijn64tab", "math/bits.divideError", "math/bits.overflowError"], apart := false, laid := [("math/bits.deBruijn64tab", laid_math_bits_deBruijn64tab)] }
def TapeUsesSaid : Prop := tapeUsesRow.holds Tryz.pinned (OpenSpec.ofChange tapeUsesSpec)

/-- ITS FALSE NEIGHBOUR: 'it returns false'. Refute it at one input. -/
def tapeUsesWrong : ChangeSpec := { name := "tapeUses", fn := fun _ => fun
  | [d1, d2, d3, d4, d5] => { results := [.lit (.bool false)], args := [d1, d2, d3, d4, d5] }
  | _ => none }
def TapeUsesWrongFalsely : Prop := tapeUsesRow.holds Tryz.pinned (OpenSpec.ofChange tapeUsesWrong)

/-- 'sluicewaylaw8.TapeBits': WHATEVER THE INPUT: true; the input reads as it did. -/
def tapeBitsSpec : ChangeSpec := { name := "tapeBits", fn := fun _ => fun
  | [d1, d2, d3, d4] => { results := [.lit (.bool true)], args := [d1, d2, d3, d4] }
  | _ => none }
def tapeBitsRow : OpenClaim := { program := "ytabjjdicffcolaagreatdoor", sum := "1dc84f5637e5324caad5d0c34ba61f91ba600fb79e7a7dd880808f56e0fb30d6", func := "sluiceway/sluicewaylaw8.TapeBits", spec := "tapeBits", inPlace := ["math/bits.Add64", "math/bits.Sub64"], unfollowed := true, recurses := true, named := ["math/bits.deBruijn64tab", "math/bits.divideError", "math/bits.overflowError"], apart := false, laid := [("math/bits.deBruijn64tab", laid_math_bits_deBruijn64tab)] }
def TapeBitsSaid : Prop := tapeBitsRow.holds Tryz.pinned (OpenSpec.ofChange tapeBitsSpec)

/-- ITS FALSE NEIGHBOUR: 'it returns false'. Refute it at one input. -/
def tapeBitsWrong : ChangeSpec := { name := "tapeBits", fn := fun _ => fun
  | [d1, d2, d3, d4] => { results := [.lit (.bool false)], args := [d1, d2, d3, d4] }
  | _ => none }
def TapeBitsWrongFalsely : Prop := tapeBitsRow.holds Tryz.pinned (OpenSpec.ofChange tapeBitsWrong)

/-- 'sluicewaylaw8.TapeHolds': WHATEVER THE INPUT: true; the input reads as it did. -/
def tapeHoldsSpec : ChangeSpec := { name := "tapeHolds", fn := fun _ => fun
  | [d1, d2, d3, d4] => { results := [.lit (.bool true)], args := [d1, d2, d3, d4] }
  | _ => none }
def tapeHoldsRow : OpenClaim := { program := "ytabjjdicffcolaagreatdoor", sum := "1dc84f5637e5324caad5d0c34ba61f91ba600fb79e7a7dd880808f56e0fb30d6", func := "sluiceway/sluicewaylaw8.TapeHolds", spec := "tapeHolds", inPlace := ["math/bits.Add64", "math/bits.Sub64"], unfollowed := true, recurses := true, named := ["math/bits.deBruijn64tab", "math/bits.divideError", "math/bits.overflowError"], apart := false, laid := [("math/bits.deBruijn64tab", laid_math_bits_deBruijn64tab)] }
def TapeHoldsSaid : Prop := tapeHoldsRow.holds Tryz.pinned (OpenSpec.ofChange tapeHoldsSpec)

/-- ITS FALSE NEIGHBOUR: 'it returns false'. Refute it at one input. -/
def tapeHoldsWrong : ChangeSpec := { name := "tapeHolds", fn := fun _ => fun
  | [d1, d2, d3, d4] => { results := [.lit (.bool false)], args := [d1, d2, d3, d4] }
  | _ => none }
def TapeHoldsWrongFalsely : Prop := tapeHoldsRow.holds Tryz.pinned (OpenSpec.ofChange tapeHoldsWrong)

/- THE SECOND FORM. 'bulk': how many values and letters a reading holds, each counted each time it is reached (what is shared counts as often as it is met; a slice's spare places count too). A statement '..UptoSaid' is the law's where the arguments, and the package variables that the reading takes, are together of bulk at most 1048576: NARROWER than '..Said'. Prove '..Said' where nothing that the law and all that it calls make is longer than what came in: it says more and counts as full. Else prove '..UptoSaid'. A law counts once. -/
mutual
def uptoBulk {H : Type} : DataW H → Nat
  | .lit (.string bytes) => bytes.length + 1
  | .lit _ => 1
  | .nil => 1
  | .ptr d => uptoBulk d + 1
  | .slice elems spare => uptoBulkAll elems + uptoBulkAll spare + 1
  | .agg parts => uptoBulkAll parts + 1
  | .iface _ d => uptoBulk d + 1
  | .map entries => uptoBulkEntries entries + 1
  | .held _ => 1
def uptoBulkAll {H : Type} : List (DataW H) → Nat
  | [] => 0
  | d :: r => uptoBulk d + uptoBulkAll r
def uptoBulkEntries {H : Type} : List (Lit × DataW H) → Nat
  | [] => 0
  | x :: r => uptoBulkEntry x + uptoBulkEntries r
def uptoBulkEntry {H : Type} : Lit × DataW H → Nat
  | (.string bytes, d) => bytes.length + uptoBulk d + 1
  | (_, d) => uptoBulk d + 1
 end
def uptoSmall : (H : Type) → List (DataW H) → Bool := fun _ ds => decide (uptoBulkAll ds ≤ 1048576)
def OpenSpec.upto (s : _root_.Go.ChangeSpec) : _root_.Go.OpenSpec := { _root_.Go.OpenSpec.ofChange s with cond := some uptoSmall }

/-- 'sluicewaylaw10.SlopeHolds', WHERE WHAT IT READS IS OF BULK AT MOST 1048576: true; the input reads as it did. -/
def slopeHoldsUptoRow : OpenClaim := { program := "ytabjjdicffcolaagreatdoor", sum := "1dc84f5637e5324caad5d0c34ba61f91ba600fb79e7a7dd880808f56e0fb30d6", func := "sluiceway/sluicewaylaw10.SlopeHolds", spec := "slopeHolds", inPlace := ["math/bits.Add64", "math/bits.Sub64"], unfollowed := true, recurses := true, named := ["math/bits.deBruijn64tab", "math/bits.divideError", "math/bits.overflowError"], apart := false, laid := [("math/bits.deBruijn64tab", laid_math_bits_deBruijn64tab)], narrowed := true }
def SlopeHoldsUptoSaid : Prop := slopeHoldsUptoRow.holds Tryz.pinned (OpenSpec.upto slopeHoldsSpec)

/-- 'sluicewaylaw10.SlopeEval', WHERE WHAT IT READS IS OF BULK AT MOST 1048576: true; the input reads as it did. -/
def slopeEvalUptoRow : OpenClaim := { program := "ytabjjdicffcolaagreatdoor", sum := "1dc84f5637e5324caad5d0c34ba61f91ba600fb79e7a7dd880808f56e0fb30d6", func := "sluiceway/sluicewaylaw10.SlopeEval", spec := "slopeEval", inPlace := ["math/bits.Add64", "math/bits.Sub64"], unfollowed := true, recurses := true, named := ["math/bits.deBruijn64tab", "math/bits.divideError", "math/bits.overflowError"], apart := false, laid := [("math/bits.deBruijn64tab", laid_math_bits_deBruijn64tab)], narrowed := true }
def SlopeEvalUptoSaid : Prop := slopeEvalUptoRow.holds Tryz.pinned (OpenSpec.upto slopeEvalSpec)

/-- 'sluicewaylaw9.JetRoots', WHERE WHAT IT READS IS OF BULK AT MOST 1048576: true; the input reads as it did. -/
def jetRootsUptoRow : OpenClaim := { program := "ytabjjdicffcolaagreatdoor", sum := "1dc84f5637e5324caad5d0c34ba61f91ba600fb79e7a7dd880808f56e0fb30d6", func := "sluiceway/sluicewaylaw9.JetRoots", spec := "jetRoots", inPlace := ["math/bits.Add64", "math/bits.Sub64"], unfollowed := true, recurses := true, named := ["math/bits.deBruijn64tab", "math/bits.divideError", "math/bits.overflowError"], apart := false, laid := [("math/bits.deBruijn64tab", laid_math_bits_deBruijn64tab)], narrowed := true }
def JetRootsUptoSaid : Prop := jetRootsUptoRow.holds Tryz.pinned (OpenSpec.upto jetRootsSpec)

/-- 'sluicewaylaw9.JetFront', WHERE WHAT IT READS IS OF BULK AT MOST 1048576: true; the input reads as it did. -/
def jetFrontUptoRow : OpenClaim := { program := "ytabjjdicffcolaagreatdoor", sum := "1dc84f5637e5324caad5d0c34ba61f91ba600fb79e7a7dd880808f56e0fb30d6", func := "sluiceway/sluicewaylaw9.JetFront", spec := "jetFront", inPlace := ["math/bits.Add64", "math/bits.Sub64"], unfollowed := true, recurses := true, named := ["math/bits.deBruijn64tab", "math/bits.divideError", "math/bits.overflowError"], apart := false, laid := [("math/bits.deBruijn64tab", laid_math_bits_deBruijn64tab)], narrowed := true }
def JetFrontUptoSaid : Prop := jetFrontUptoRow.holds Tryz.pinned (OpenSpec.upto jetFrontSpec)

/-- 'sluicewaylaw8.TapeFront', WHERE WHAT IT READS IS OF BULK AT MOST 1048576: true; the input reads as it did. -/
def tapeFrontUptoRow : OpenClaim := { program := "ytabjjdicffcolaagreatdoor", sum := "1dc84f5637e5324caad5d0c34ba61f91ba600fb79e7a7dd880808f56e0fb30d6", func := "sluiceway/sluicewaylaw8.TapeFront", spec := "tapeFront", inPlace := ["math/bits.Add64", "math/bits.Sub64"], unfollowed := true, recurses := true, named := ["math/bits.deBruijn64tab", "math/bits.divideError", "math/bits.overflowError"], apart := false, laid := [("math/bits.deBruijn64tab", laid_math_bits_deBruijn64tab)], narrowed := true }
def TapeFrontUptoSaid : Prop := tapeFrontUptoRow.holds Tryz.pinned (OpenSpec.upto tapeFrontSpec)

/-- 'sluicewaylaw8.TapeUses', WHERE WHAT IT READS IS OF BULK AT MOST 1048576: true; the input reads as it did. -/
def tapeUsesUptoRow : OpenClaim := { program := "ytabjjdicffcolaagreatdoor", sum := "1dc84f5637e5324caad5d0c34ba61f91ba600fb79e7a7dd880808f56e0fb30d6", func := "sluiceway/sluicewaylaw8.TapeUses", spec := "tapeUses", inPlace := ["math/bits.Add64", "math/bits.Sub64"], unfollowed := true, recurses := true, named := ["math/bits.deBruijn64tab", "math/bits.divideError", "math/bits.overflowError"], apart := false, laid := [("math/bits.deBruijn64tab", laid_math_bits_deBruijn64tab)], narrowed := true }
def TapeUsesUptoSaid : Prop := tapeUsesUptoRow.holds Tryz.pinned (OpenSpec.upto tapeUsesSpec)

/-- 'sluicewaylaw8.TapeBits', WHERE WHAT IT READS IS OF BULK AT MOST 1048576: true; the input reads as it did. -/
def tapeBitsUptoRow : OpenClaim := { program := "ytabjjdicffcolaagreatdoor", sum := "1dc84f5637e5324caad5d0c34ba61f91ba600fb79e7a7dd880808f56e0fb30d6", func := "sluiceway/sluicewaylaw8.TapeBits", spec := "tapeBits", inPlace := ["math/bits.Add64", "math/bits.Sub64"], unfollowed := true, recurses := true, named := ["math/bits.deBruijn64tab", "math/bits.divideError", "math/bits.overflowError"], apart := false, laid := [("math/bits.deBruijn64tab", laid_math_bits_deBruijn64tab)], narrowed := true }
def TapeBitsUptoSaid : Prop := tapeBitsUptoRow.holds Tryz.pinned (OpenSpec.upto tapeBitsSpec)

/-- 'sluicewaylaw8.TapeHolds', WHERE WHAT IT READS IS OF BULK AT MOST 1048576: true; the input reads as it did. -/
def tapeHoldsUptoRow : OpenClaim := { program := "ytabjjdicffcolaagreatdoor", sum := "1dc84f5637e5324caad5d0c34ba61f91ba600fb79e7a7dd880808f56e0fb30d6", func := "sluiceway/sluicewaylaw8.TapeHolds", spec := "tapeHolds", inPlace := ["math/bits.Add64", "math/bits.Sub64"], unfollowed := true, recurses := true, named := ["math/bits.deBruijn64tab", "math/bits.divideError", "math/bits.overflowError"], apart := false, laid := [("math/bits.deBruijn64tab", laid_math_bits_deBruijn64tab)], narrowed := true }
def TapeHoldsUptoSaid : Prop := tapeHoldsUptoRow.holds Tryz.pinned (OpenSpec.upto tapeHoldsSpec)

end Rows
end Go.Proofs.YtabjjdicffcolaaGreatDoor
