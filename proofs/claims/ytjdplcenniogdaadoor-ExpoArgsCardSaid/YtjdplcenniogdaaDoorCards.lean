/-
  DERIVED. GIVEN WITH THE SEED: THE CARDS: each row of YtjdplcenniogdaaDoorRows.lean that lists a variable, with what it lists TIED to the program's text (the seventh form; the later family's looks); each row that meets fmt, with fmt's text TOLD by the authors' own Lean function (tested against real Go, not proved from fmt's source: count such statements apart). THE CARD IS WHAT COUNTS. Prove the row's statement (the work); the ties are given (YtjdplcenniogdaaDoorTie.lean); close each card by the builder's one call (the guide's Derived/Test/ToyasCard.lean, 'card_holds'). Laid BY PROGRAM, IN A SANDBOX (cutbox-door.mjs). By AI agents, Wed Nov 11 2026. No macro, syntax, notation, axiom, sorry.
-/
import Derived.Test.YtjdplcenniogdaaDoorRows
import GoSem.ClaimSeven
namespace Go.Proofs.YtjdplcenniogdaaDoor
namespace Rows

/-- THE TIED CARD OF 'sluicewaylaw7.ExpoArgs'. -/
def expoArgsCard : Claim7 := { stood := { row := expoArgsRow, standIns := [], harness := (true, "b3d07aca7227f70375da6971a5362c82b36b5195d3bd1981715957b405bfb6b6"), looks := true }, kinds := [], alts := [], laidByText := true, laidKinds := [.data], laidTests := true, laidLooks := .later }
def ExpoArgsCardSaid : Prop := Claim7.holds Tryd.pinned (.plain (OpenSpec.ofChange expoArgsSpec)) expoArgsCard

/-- THE TIED CARD OF 'sluicewaylaw6.ArithUndo'. -/
def arithUndoCard : Claim7 := { stood := { row := arithUndoRow, standIns := [], harness := (true, "b3d07aca7227f70375da6971a5362c82b36b5195d3bd1981715957b405bfb6b6"), looks := true }, kinds := [], alts := [], laidByText := true, laidKinds := [.data], laidTests := true, laidLooks := .later }
def ArithUndoCardSaid : Prop := Claim7.holds Tryd.pinned (.plain (OpenSpec.ofChange arithUndoSpec)) arithUndoCard

/-- THE TIED CARD OF 'sluicewaylaw6.ArithTurns'. -/
def arithTurnsCard : Claim7 := { stood := { row := arithTurnsRow, standIns := [], harness := (true, "b3d07aca7227f70375da6971a5362c82b36b5195d3bd1981715957b405bfb6b6"), looks := true }, kinds := [], alts := [], laidByText := true, laidKinds := [.data], laidTests := true, laidLooks := .later }
def ArithTurnsCardSaid : Prop := Claim7.holds Tryd.pinned (.plain (OpenSpec.ofChange arithTurnsSpec)) arithTurnsCard

/-- THE TIED CARD OF 'sluicewaylaw6.ArithPoints'. -/
def arithPointsCard : Claim7 := { stood := { row := arithPointsRow, standIns := [], harness := (true, "b3d07aca7227f70375da6971a5362c82b36b5195d3bd1981715957b405bfb6b6"), looks := true }, kinds := [], alts := [], laidByText := true, laidKinds := [.data], laidTests := true, laidLooks := .later }
def ArithPointsCardSaid : Prop := Claim7.holds Tryd.pinned (.plain (OpenSpec.ofChange arithPointsSpec)) arithPointsCard

/-- THE TIED CARD OF 'sluicewaylaw6.ArithGrows'. -/
def arithGrowsCard : Claim7 := { stood := { row := arithGrowsRow, standIns := [], harness := (true, "b3d07aca7227f70375da6971a5362c82b36b5195d3bd1981715957b405bfb6b6"), looks := true }, kinds := [], alts := [], laidByText := true, laidKinds := [.data], laidTests := true, laidLooks := .later }
def ArithGrowsCardSaid : Prop := Claim7.holds Tryd.pinned (.plain (OpenSpec.ofChange arithGrowsSpec)) arithGrowsCard

/-- THE SECOND FORM's CARD OF 'sluicewaylaw7.ExpoArgs'. -/
def expoArgsUptoCard : Claim7 := { stood := { row := expoArgsUptoRow, standIns := [], harness := (true, "b3d07aca7227f70375da6971a5362c82b36b5195d3bd1981715957b405bfb6b6"), looks := true }, kinds := [], alts := [], laidByText := true, laidKinds := [.data], laidTests := true, laidLooks := .later }
def ExpoArgsUptoCardSaid : Prop := Claim7.holds Tryd.pinned (.plain (OpenSpec.upto expoArgsSpec)) expoArgsUptoCard

/-- THE SECOND FORM's CARD OF 'sluicewaylaw6.ArithUndo'. -/
def arithUndoUptoCard : Claim7 := { stood := { row := arithUndoUptoRow, standIns := [], harness := (true, "b3d07aca7227f70375da6971a5362c82b36b5195d3bd1981715957b405bfb6b6"), looks := true }, kinds := [], alts := [], laidByText := true, laidKinds := [.data], laidTests := true, laidLooks := .later }
def ArithUndoUptoCardSaid : Prop := Claim7.holds Tryd.pinned (.plain (OpenSpec.upto arithUndoSpec)) arithUndoUptoCard

/-- THE SECOND FORM's CARD OF 'sluicewaylaw6.ArithTurns'. -/
def arithTurnsUptoCard : Claim7 := { stood := { row := arithTurnsUptoRow, standIns := [], harness := (true, "b3d07aca7227f70375da6971a5362c82b36b5195d3bd1981715957b405bfb6b6"), looks := true }, kinds := [], alts := [], laidByText := true, laidKinds := [.data], laidTests := true, laidLooks := .later }
def ArithTurnsUptoCardSaid : Prop := Claim7.holds Tryd.pinned (.plain (OpenSpec.upto arithTurnsSpec)) arithTurnsUptoCard

/-- THE SECOND FORM's CARD OF 'sluicewaylaw6.ArithPoints'. -/
def arithPointsUptoCard : Claim7 := { stood := { row := arithPointsUptoRow, standIns := [], harness := (true, "b3d07aca7227f70375da6971a5362c82b36b5195d3bd1981715957b405bfb6b6"), looks := true }, kinds := [], alts := [], laidByText := true, laidKinds := [.data], laidTests := true, laidLooks := .later }
def ArithPointsUptoCardSaid : Prop := Claim7.holds Tryd.pinned (.plain (OpenSpec.upto arithPointsSpec)) arithPointsUptoCard

/-- THE SECOND FORM's CARD OF 'sluicewaylaw6.ArithGrows'. -/
def arithGrowsUptoCard : Claim7 := { stood := { row := arithGrowsUptoRow, standIns := [], harness := (true, "b3d07aca7227f70375da6971a5362c82b36b5195d3bd1981715957b405bfb6b6"), looks := true }, kinds := [], alts := [], laidByText := true, laidKinds := [.data], laidTests := true, laidLooks := .later }
def ArithGrowsUptoCardSaid : Prop := Claim7.holds Tryd.pinned (.plain (OpenSpec.upto arithGrowsSpec)) arithGrowsUptoCard
end Rows
end Go.Proofs.YtjdplcenniogdaaDoor
