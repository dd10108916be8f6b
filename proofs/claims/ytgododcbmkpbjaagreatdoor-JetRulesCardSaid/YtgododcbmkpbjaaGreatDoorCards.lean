/-
  DERIVED. GIVEN WITH THE SEED: THE CARDS: each row of YtgododcbmkpbjaaGreatDoorRows.lean that lists a variable, with what it lists TIED to the program's text (the seventh form; the later family's looks); each row that meets fmt, with fmt's text TOLD by the authors' own Lean function (tested against real Go, not proved from fmt's source: count such statements apart). THE CARD IS WHAT COUNTS. Prove the row's statement (the work); the ties are given (YtgododcbmkpbjaaGreatDoorTie.lean); close each card by the builder's one call (the guide's Derived/Test/ToyasCard.lean, 'card_holds'). Laid BY PROGRAM, IN A SANDBOX (cutbox-door.mjs). By AI agents, Wed Nov 11 2026. No macro, syntax, notation, axiom, sorry.
-/
import Derived.Test.YtgododcbmkpbjaaGreatDoorRows
import GoSem.ClaimSeven
namespace Go.Proofs.YtgododcbmkpbjaaGreatDoor
namespace Rows

/-- THE TIED CARD OF 'sluicewaylaw10.SlopeLines'. -/
def slopeLinesCard : Claim7 := { stood := { row := slopeLinesRow, standIns := [], harness := (true, "ea528c740e639c7c6bdb579d5cfae35ac0d3a49d94cf91797e54af6b77a855ec"), looks := true }, kinds := [], alts := [], laidByText := true, laidKinds := [.data], laidTests := true, laidLooks := .later }
def SlopeLinesCardSaid : Prop := Claim7.holds Tryz.pinned (.plain (OpenSpec.ofChange slopeLinesSpec)) slopeLinesCard

/-- THE TIED CARD OF 'sluicewaylaw10.SlopeEval'. -/
def slopeEvalCard : Claim7 := { stood := { row := slopeEvalRow, standIns := [], harness := (true, "ea528c740e639c7c6bdb579d5cfae35ac0d3a49d94cf91797e54af6b77a855ec"), looks := true }, kinds := [], alts := [], laidByText := true, laidKinds := [.data], laidTests := true, laidLooks := .later }
def SlopeEvalCardSaid : Prop := Claim7.holds Tryz.pinned (.plain (OpenSpec.ofChange slopeEvalSpec)) slopeEvalCard

/-- THE TIED CARD OF 'sluicewaylaw10.SlopeMean'. -/
def slopeMeanCard : Claim7 := { stood := { row := slopeMeanRow, standIns := [], harness := (true, "ea528c740e639c7c6bdb579d5cfae35ac0d3a49d94cf91797e54af6b77a855ec"), looks := true }, kinds := [], alts := [], laidByText := true, laidKinds := [.data], laidTests := true, laidLooks := .later }
def SlopeMeanCardSaid : Prop := Claim7.holds Tryz.pinned (.plain (OpenSpec.ofChange slopeMeanSpec)) slopeMeanCard

/-- THE TIED CARD OF 'sluicewaylaw9.JetKnown'. -/
def jetKnownCard : Claim7 := { stood := { row := jetKnownRow, standIns := [], harness := (true, "ea528c740e639c7c6bdb579d5cfae35ac0d3a49d94cf91797e54af6b77a855ec"), looks := true }, kinds := [], alts := [], laidByText := true, laidKinds := [.data], laidTests := true, laidLooks := .later }
def JetKnownCardSaid : Prop := Claim7.holds Tryz.pinned (.plain (OpenSpec.ofChange jetKnownSpec)) jetKnownCard

/-- THE TIED CARD OF 'sluicewaylaw9.JetExp'. -/
def jetExpCard : Claim7 := { stood := { row := jetExpRow, standIns := [], harness := (true, "ea528c740e639c7c6bdb579d5cfae35ac0d3a49d94cf91797e54af6b77a855ec"), looks := true }, kinds := [], alts := [], laidByText := true, laidKinds := [.data], laidTests := true, laidLooks := .later }
def JetExpCardSaid : Prop := Claim7.holds Tryz.pinned (.plain (OpenSpec.ofChange jetExpSpec)) jetExpCard

/-- THE TIED CARD OF 'sluicewaylaw9.JetRules'. -/
def jetRulesCard : Claim7 := { stood := { row := jetRulesRow, standIns := [], harness := (true, "ea528c740e639c7c6bdb579d5cfae35ac0d3a49d94cf91797e54af6b77a855ec"), looks := true }, kinds := [], alts := [], laidByText := true, laidKinds := [.data], laidTests := true, laidLooks := .later }
def JetRulesCardSaid : Prop := Claim7.holds Tryz.pinned (.plain (OpenSpec.ofChange jetRulesSpec)) jetRulesCard

/-- THE TIED CARD OF 'sluicewaylaw9.JetFront'. -/
def jetFrontCard : Claim7 := { stood := { row := jetFrontRow, standIns := [], harness := (true, "ea528c740e639c7c6bdb579d5cfae35ac0d3a49d94cf91797e54af6b77a855ec"), looks := true }, kinds := [], alts := [], laidByText := true, laidKinds := [.data], laidTests := true, laidLooks := .later }
def JetFrontCardSaid : Prop := Claim7.holds Tryz.pinned (.plain (OpenSpec.ofChange jetFrontSpec)) jetFrontCard

/-- THE TIED CARD OF 'sluicewaylaw8.TapeFront'. -/
def tapeFrontCard : Claim7 := { stood := { row := tapeFrontRow, standIns := [], harness := (true, "ea528c740e639c7c6bdb579d5cfae35ac0d3a49d94cf91797e54af6b77a855ec"), looks := true }, kinds := [], alts := [], laidByText := true, laidKinds := [.data], laidTests := true, laidLooks := .later }
def TapeFrontCardSaid : Prop := Claim7.holds Tryz.pinned (.plain (OpenSpec.ofChange tapeFrontSpec)) tapeFrontCard

/-- THE TIED CARD OF 'sluicewaylaw8.TapeUses'. -/
def tapeUsesCard : Claim7 := { stood := { row := tapeUsesRow, standIns := [], harness := (true, "ea528c740e639c7c6bdb579d5cfae35ac0d3a49d94cf91797e54af6b77a855ec"), looks := true }, kinds := [], alts := [], laidByText := true, laidKinds := [.data], laidTests := true, laidLooks := .later }
def TapeUsesCardSaid : Prop := Claim7.holds Tryz.pinned (.plain (OpenSpec.ofChange tapeUsesSpec)) tapeUsesCard

/-- THE SECOND FORM's CARD OF 'sluicewaylaw10.SlopeLines'. -/
def slopeLinesUptoCard : Claim7 := { stood := { row := slopeLinesUptoRow, standIns := [], harness := (true, "ea528c740e639c7c6bdb579d5cfae35ac0d3a49d94cf91797e54af6b77a855ec"), looks := true }, kinds := [], alts := [], laidByText := true, laidKinds := [.data], laidTests := true, laidLooks := .later }
def SlopeLinesUptoCardSaid : Prop := Claim7.holds Tryz.pinned (.plain (OpenSpec.upto slopeLinesSpec)) slopeLinesUptoCard

/-- THE SECOND FORM's CARD OF 'sluicewaylaw10.SlopeEval'. -/
def slopeEvalUptoCard : Claim7 := { stood := { row := slopeEvalUptoRow, standIns := [], harness := (true, "ea528c740e639c7c6bdb579d5cfae35ac0d3a49d94cf91797e54af6b77a855ec"), looks := true }, kinds := [], alts := [], laidByText := true, laidKinds := [.data], laidTests := true, laidLooks := .later }
def SlopeEvalUptoCardSaid : Prop := Claim7.holds Tryz.pinned (.plain (OpenSpec.upto slopeEvalSpec)) slopeEvalUptoCard

/-- THE SECOND FORM's CARD OF 'sluicewaylaw10.SlopeMean'. -/
def slopeMeanUptoCard : Claim7 := { stood := { row := slopeMeanUptoRow, standIns := [], harness := (true, "ea528c740e639c7c6bdb579d5cfae35ac0d3a49d94cf91797e54af6b77a855ec"), looks := true }, kinds := [], alts := [], laidByText := true, laidKinds := [.data], laidTests := true, laidLooks := .later }
def SlopeMeanUptoCardSaid : Prop := Claim7.holds Tryz.pinned (.plain (OpenSpec.upto slopeMeanSpec)) slopeMeanUptoCard

/-- THE SECOND FORM's CARD OF 'sluicewaylaw9.JetKnown'. -/
def jetKnownUptoCard : Claim7 := { stood := { row := jetKnownUptoRow, standIns := [], harness := (true, "ea528c740e639c7c6bdb579d5cfae35ac0d3a49d94cf91797e54af6b77a855ec"), looks := true }, kinds := [], alts := [], laidByText := true, laidKinds := [.data], laidTests := true, laidLooks := .later }
def JetKnownUptoCardSaid : Prop := Claim7.holds Tryz.pinned (.plain (OpenSpec.upto jetKnownSpec)) jetKnownUptoCard

/-- THE SECOND FORM's CARD OF 'sluicewaylaw9.JetExp'. -/
def jetExpUptoCard : Claim7 := { stood := { row := jetExpUptoRow, standIns := [], harness := (true, "ea528c740e639c7c6bdb579d5cfae35ac0d3a49d94cf91797e54af6b77a855ec"), looks := true }, kinds := [], alts := [], laidByText := true, laidKinds := [.data], laidTests := true, laidLooks := .later }
def JetExpUptoCardSaid : Prop := Claim7.holds Tryz.pinned (.plain (OpenSpec.upto jetExpSpec)) jetExpUptoCard

/-- THE SECOND FORM's CARD OF 'sluicewaylaw9.JetRules'. -/
def jetRulesUptoCard : Claim7 := { stood := { row := jetRulesUptoRow, standIns := [], harness := (true, "ea528c740e639c7c6bdb579d5cfae35ac0d3a49d94cf91797e54af6b77a855ec"), looks := true }, kinds := [], alts := [], laidByText := true, laidKinds := [.data], laidTests := true, laidLooks := .later }
def JetRulesUptoCardSaid : Prop := Claim7.holds Tryz.pinned (.plain (OpenSpec.upto jetRulesSpec)) jetRulesUptoCard

/-- THE SECOND FORM's CARD OF 'sluicewaylaw9.JetFront'. -/
def jetFrontUptoCard : Claim7 := { stood := { row := jetFrontUptoRow, standIns := [], harness := (true, "ea528c740e639c7c6bdb579d5cfae35ac0d3a49d94cf91797e54af6b77a855ec"), looks := true }, kinds := [], alts := [], laidByText := true, laidKinds := [.data], laidTests := true, laidLooks := .later }
def JetFrontUptoCardSaid : Prop := Claim7.holds Tryz.pinned (.plain (OpenSpec.upto jetFrontSpec)) jetFrontUptoCard

/-- THE SECOND FORM's CARD OF 'sluicewaylaw8.TapeFront'. -/
def tapeFrontUptoCard : Claim7 := { stood := { row := tapeFrontUptoRow, standIns := [], harness := (true, "ea528c740e639c7c6bdb579d5cfae35ac0d3a49d94cf91797e54af6b77a855ec"), looks := true }, kinds := [], alts := [], laidByText := true, laidKinds := [.data], laidTests := true, laidLooks := .later }
def TapeFrontUptoCardSaid : Prop := Claim7.holds Tryz.pinned (.plain (OpenSpec.upto tapeFrontSpec)) tapeFrontUptoCard

/-- THE SECOND FORM's CARD OF 'sluicewaylaw8.TapeUses'. -/
def tapeUsesUptoCard : Claim7 := { stood := { row := tapeUsesUptoRow, standIns := [], harness := (true, "ea528c740e639c7c6bdb579d5cfae35ac0d3a49d94cf91797e54af6b77a855ec"), looks := true }, kinds := [], alts := [], laidByText := true, laidKinds := [.data], laidTests := true, laidLooks := .later }
def TapeUsesUptoCardSaid : Prop := Claim7.holds Tryz.pinned (.plain (OpenSpec.upto tapeUsesSpec)) tapeUsesUptoCard
end Rows
end Go.Proofs.YtgododcbmkpbjaaGreatDoor
