/-
  DERIVED. GIVEN WITH THE SEED: THE CARDS: each row of YtabjjdicffcolaaGreatDoorRows.lean that lists a variable, with what it lists TIED to the program's text (the seventh form; the later family's looks); each row that meets fmt, with fmt's text TOLD by the authors' own Lean function (tested against real Go, not proved from fmt's source: count such statements apart). THE CARD IS WHAT COUNTS. Prove the row's statement (the work); the ties are given (YtabjjdicffcolaaGreatDoorTie.lean); close each card by the builder's one call (the guide's Derived/Test/ToyasCard.lean, 'card_holds'). Laid BY PROGRAM, IN A SANDBOX (cutbox-door.mjs). By AI agents, Wed Nov 11 2026. No macro, syntax, notation, axiom, sorry.
-/
import Derived.Test.YtabjjdicffcolaaGreatDoorRows
import GoSem.ClaimSeven
namespace Go.Proofs.YtabjjdicffcolaaGreatDoor
namespace Rows

/-- THE TIED CARD OF 'sluicewaylaw10.SlopeHolds'. -/
def slopeHoldsCard : Claim7 := { stood := { row := slopeHoldsRow, standIns := [], harness := (true, "dbeef0bcfa4a6dea8c851a54f7ac34440cacb2221e6f9207d2786c365bd3a42d"), looks := true }, kinds := [], alts := [], laidByText := true, laidKinds := [.data], laidTests := true, laidLooks := .later }
def SlopeHoldsCardSaid : Prop := Claim7.holds Tryz.pinned (.plain (OpenSpec.ofChange slopeHoldsSpec)) slopeHoldsCard

/-- THE TIED CARD OF 'sluicewaylaw10.SlopeEval'. -/
def slopeEvalCard : Claim7 := { stood := { row := slopeEvalRow, standIns := [], harness := (true, "dbeef0bcfa4a6dea8c851a54f7ac34440cacb2221e6f9207d2786c365bd3a42d"), looks := true }, kinds := [], alts := [], laidByText := true, laidKinds := [.data], laidTests := true, laidLooks := .later }
def SlopeEvalCardSaid : Prop := Claim7.holds Tryz.pinned (.plain (OpenSpec.ofChange slopeEvalSpec)) slopeEvalCard

/-- THE TIED CARD OF 'sluicewaylaw9.JetRoots'. -/
def jetRootsCard : Claim7 := { stood := { row := jetRootsRow, standIns := [], harness := (true, "dbeef0bcfa4a6dea8c851a54f7ac34440cacb2221e6f9207d2786c365bd3a42d"), looks := true }, kinds := [], alts := [], laidByText := true, laidKinds := [.data], laidTests := true, laidLooks := .later }
def JetRootsCardSaid : Prop := Claim7.holds Tryz.pinned (.plain (OpenSpec.ofChange jetRootsSpec)) jetRootsCard

/-- THE TIED CARD OF 'sluicewaylaw9.JetFront'. -/
def jetFrontCard : Claim7 := { stood := { row := jetFrontRow, standIns := [], harness := (true, "dbeef0bcfa4a6dea8c851a54f7ac34440cacb2221e6f9207d2786c365bd3a42d"), looks := true }, kinds := [], alts := [], laidByText := true, laidKinds := [.data], laidTests := true, laidLooks := .later }
def JetFrontCardSaid : Prop := Claim7.holds Tryz.pinned (.plain (OpenSpec.ofChange jetFrontSpec)) jetFrontCard

/-- THE TIED CARD OF 'sluicewaylaw8.TapeFront'. -/
def tapeFrontCard : Claim7 := { stood := { row := tapeFrontRow, standIns := [], harness := (true, "dbeef0bcfa4a6dea8c851a54f7ac34440cacb2221e6f9207d2786c365bd3a42d"), looks := true }, kinds := [], alts := [], laidByText := true, laidKinds := [.data], laidTests := true, laidLooks := .later }
def TapeFrontCardSaid : Prop := Claim7.holds Tryz.pinned (.plain (OpenSpec.ofChange tapeFrontSpec)) tapeFrontCard

/-- THE TIED CARD OF 'sluicewaylaw8.TapeUses'. -/
def tapeUsesCard : Claim7 := { stood := { row := tapeUsesRow, standIns := [], harness := (true, "dbeef0bcfa4a6dea8c851a54f7ac34440cacb2221e6f9207d2786c365bd3a42d"), looks := true }, kinds := [], alts := [], laidByText := true, laidKinds := [.data], laidTests := true, laidLooks := .later }
def TapeUsesCardSaid : Prop := Claim7.holds Tryz.pinned (.plain (OpenSpec.ofChange tapeUsesSpec)) tapeUsesCard

/-- THE TIED CARD OF 'sluicewaylaw8.TapeBits'. -/
def tapeBitsCard : Claim7 := { stood := { row := tapeBitsRow, standIns := [], harness := (true, "dbeef0bcfa4a6dea8c851a54f7ac34440cacb2221e6f9207d2786c365bd3a42d"), looks := true }, kinds := [], alts := [], laidByText := true, laidKinds := [.data], laidTests := true, laidLooks := .later }
def TapeBitsCardSaid : Prop := Claim7.holds Tryz.pinned (.plain (OpenSpec.ofChange tapeBitsSpec)) tapeBitsCard

/-- THE TIED CARD OF 'sluicewaylaw8.TapeHolds'. -/
def tapeHoldsCard : Claim7 := { stood := { row := tapeHoldsRow, standIns := [], harness := (true, "dbeef0bcfa4a6dea8c851a54f7ac34440cacb2221e6f9207d2786c365bd3a42d"), looks := true }, kinds := [], alts := [], laidByText := true, laidKinds := [.data], laidTests := true, laidLooks := .later }
def TapeHoldsCardSaid : Prop := Claim7.holds Tryz.pinned (.plain (OpenSpec.ofChange tapeHoldsSpec)) tapeHoldsCard

/-- THE SECOND FORM's CARD OF 'sluicewaylaw10.SlopeHolds'. -/
def slopeHoldsUptoCard : Claim7 := { stood := { row := slopeHoldsUptoRow, standIns := [], harness := (true, "dbeef0bcfa4a6dea8c851a54f7ac34440cacb2221e6f9207d2786c365bd3a42d"), looks := true }, kinds := [], alts := [], laidByText := true, laidKinds := [.data], laidTests := true, laidLooks := .later }
def SlopeHoldsUptoCardSaid : Prop := Claim7.holds Tryz.pinned (.plain (OpenSpec.upto slopeHoldsSpec)) slopeHoldsUptoCard

/-- THE SECOND FORM's CARD OF 'sluicewaylaw10.SlopeEval'. -/
def slopeEvalUptoCard : Claim7 := { stood := { row := slopeEvalUptoRow, standIns := [], harness := (true, "dbeef0bcfa4a6dea8c851a54f7ac34440cacb2221e6f9207d2786c365bd3a42d"), looks := true }, kinds := [], alts := [], laidByText := true, laidKinds := [.data], laidTests := true, laidLooks := .later }
def SlopeEvalUptoCardSaid : Prop := Claim7.holds Tryz.pinned (.plain (OpenSpec.upto slopeEvalSpec)) slopeEvalUptoCard

/-- THE SECOND FORM's CARD OF 'sluicewaylaw9.JetRoots'. -/
def jetRootsUptoCard : Claim7 := { stood := { row := jetRootsUptoRow, standIns := [], harness := (true, "dbeef0bcfa4a6dea8c851a54f7ac34440cacb2221e6f9207d2786c365bd3a42d"), looks := true }, kinds := [], alts := [], laidByText := true, laidKinds := [.data], laidTests := true, laidLooks := .later }
def JetRootsUptoCardSaid : Prop := Claim7.holds Tryz.pinned (.plain (OpenSpec.upto jetRootsSpec)) jetRootsUptoCard

/-- THE SECOND FORM's CARD OF 'sluicewaylaw9.JetFront'. -/
def jetFrontUptoCard : Claim7 := { stood := { row := jetFrontUptoRow, standIns := [], harness := (true, "dbeef0bcfa4a6dea8c851a54f7ac34440cacb2221e6f9207d2786c365bd3a42d"), looks := true }, kinds := [], alts := [], laidByText := true, laidKinds := [.data], laidTests := true, laidLooks := .later }
def JetFrontUptoCardSaid : Prop := Claim7.holds Tryz.pinned (.plain (OpenSpec.upto jetFrontSpec)) jetFrontUptoCard

/-- THE SECOND FORM's CARD OF 'sluicewaylaw8.TapeFront'. -/
def tapeFrontUptoCard : Claim7 := { stood := { row := tapeFrontUptoRow, standIns := [], harness := (true, "dbeef0bcfa4a6dea8c851a54f7ac34440cacb2221e6f9207d2786c365bd3a42d"), looks := true }, kinds := [], alts := [], laidByText := true, laidKinds := [.data], laidTests := true, laidLooks := .later }
def TapeFrontUptoCardSaid : Prop := Claim7.holds Tryz.pinned (.plain (OpenSpec.upto tapeFrontSpec)) tapeFrontUptoCard

/-- THE SECOND FORM's CARD OF 'sluicewaylaw8.TapeUses'. -/
def tapeUsesUptoCard : Claim7 := { stood := { row := tapeUsesUptoRow, standIns := [], harness := (true, "dbeef0bcfa4a6dea8c851a54f7ac34440cacb2221e6f9207d2786c365bd3a42d"), looks := true }, kinds := [], alts := [], laidByText := true, laidKinds := [.data], laidTests := true, laidLooks := .later }
def TapeUsesUptoCardSaid : Prop := Claim7.holds Tryz.pinned (.plain (OpenSpec.upto tapeUsesSpec)) tapeUsesUptoCard

/-- THE SECOND FORM's CARD OF 'sluicewaylaw8.TapeBits'. -/
def tapeBitsUptoCard : Claim7 := { stood := { row := tapeBitsUptoRow, standIns := [], harness := (true, "dbeef0bcfa4a6dea8c851a54f7ac34440cacb2221e6f9207d2786c365bd3a42d"), looks := true }, kinds := [], alts := [], laidByText := true, laidKinds := [.data], laidTests := true, laidLooks := .later }
def TapeBitsUptoCardSaid : Prop := Claim7.holds Tryz.pinned (.plain (OpenSpec.upto tapeBitsSpec)) tapeBitsUptoCard

/-- THE SECOND FORM's CARD OF 'sluicewaylaw8.TapeHolds'. -/
def tapeHoldsUptoCard : Claim7 := { stood := { row := tapeHoldsUptoRow, standIns := [], harness := (true, "dbeef0bcfa4a6dea8c851a54f7ac34440cacb2221e6f9207d2786c365bd3a42d"), looks := true }, kinds := [], alts := [], laidByText := true, laidKinds := [.data], laidTests := true, laidLooks := .later }
def TapeHoldsUptoCardSaid : Prop := Claim7.holds Tryz.pinned (.plain (OpenSpec.upto tapeHoldsSpec)) tapeHoldsUptoCard
end Rows
end Go.Proofs.YtabjjdicffcolaaGreatDoor
