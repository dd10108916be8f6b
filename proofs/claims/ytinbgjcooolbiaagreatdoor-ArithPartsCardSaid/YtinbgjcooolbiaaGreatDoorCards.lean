/-
  DERIVED. GIVEN WITH THE SEED: THE CARDS: each row of YtinbgjcooolbiaaGreatDoorRows.lean that lists a variable, with what it lists TIED to the program's text (the seventh form; the later family's looks); each row that meets fmt, with fmt's text TOLD by the authors' own Lean function (tested against real Go, not proved from fmt's source: count such statements apart). THE CARD IS WHAT COUNTS. Prove the row's statement (the work); the ties are given (YtinbgjcooolbiaaGreatDoorTie.lean); close each card by the builder's one call (the guide's Derived/Test/ToyasCard.lean, 'card_holds'). Laid BY PROGRAM, IN A SANDBOX (cutbox-door.mjs). By AI agents, Wed Nov 11 2026. No macro, syntax, notation, axiom, sorry.
-/
import Derived.Test.YtinbgjcooolbiaaGreatDoorRows
import GoSem.ClaimSeven
namespace Go.Proofs.YtinbgjcooolbiaaGreatDoor
namespace Rows

/-- THE TIED CARD OF 'sluicewaylaw6.ArithParts'. -/
def arithPartsCard : Claim7 := { stood := { row := arithPartsRow, standIns := [], harness := (true, "79dd31893691a5e3c20646b3bd8c10c30eda9a85ebdccbe323cc579f79f76dcf"), looks := true }, kinds := [], alts := [], laidByText := true, laidKinds := [.data], laidTests := true, laidLooks := .later }
def ArithPartsCardSaid : Prop := Claim7.holds Tryz.pinned (.plain (OpenSpec.ofChange arithPartsSpec)) arithPartsCard

/-- THE TIED CARD OF 'sluicewaylaw6.ArithAsks'. -/
def arithAsksCard : Claim7 := { stood := { row := arithAsksRow, standIns := [], harness := (true, "79dd31893691a5e3c20646b3bd8c10c30eda9a85ebdccbe323cc579f79f76dcf"), looks := true }, kinds := [], alts := [], laidByText := true, laidKinds := [.data], laidTests := true, laidLooks := .later }
def ArithAsksCardSaid : Prop := Claim7.holds Tryz.pinned (.plain (OpenSpec.ofChange arithAsksSpec)) arithAsksCard

/-- THE SECOND FORM's CARD OF 'sluicewaylaw6.ArithParts'. -/
def arithPartsUptoCard : Claim7 := { stood := { row := arithPartsUptoRow, standIns := [], harness := (true, "79dd31893691a5e3c20646b3bd8c10c30eda9a85ebdccbe323cc579f79f76dcf"), looks := true }, kinds := [], alts := [], laidByText := true, laidKinds := [.data], laidTests := true, laidLooks := .later }
def ArithPartsUptoCardSaid : Prop := Claim7.holds Tryz.pinned (.plain (OpenSpec.upto arithPartsSpec)) arithPartsUptoCard

/-- THE SECOND FORM's CARD OF 'sluicewaylaw6.ArithAsks'. -/
def arithAsksUptoCard : Claim7 := { stood := { row := arithAsksUptoRow, standIns := [], harness := (true, "79dd31893691a5e3c20646b3bd8c10c30eda9a85ebdccbe323cc579f79f76dcf"), looks := true }, kinds := [], alts := [], laidByText := true, laidKinds := [.data], laidTests := true, laidLooks := .later }
def ArithAsksUptoCardSaid : Prop := Claim7.holds Tryz.pinned (.plain (OpenSpec.upto arithAsksSpec)) arithAsksUptoCard
end Rows
end Go.Proofs.YtinbgjcooolbiaaGreatDoor
