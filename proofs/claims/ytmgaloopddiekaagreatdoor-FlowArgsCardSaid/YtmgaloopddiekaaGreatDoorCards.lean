/-
  DERIVED. GIVEN WITH THE SEED: THE CARDS: each row of YtmgaloopddiekaaGreatDoorRows.lean that lists a variable, with what it lists TIED to the program's text (the seventh form; the later family's looks); each row that meets fmt, with fmt's text TOLD by the authors' own Lean function (tested against real Go, not proved from fmt's source: count such statements apart). THE CARD IS WHAT COUNTS. Prove the row's statement (the work); the ties are given (YtmgaloopddiekaaGreatDoorTie.lean); close each card by the builder's one call (the guide's Derived/Test/ToyasCard.lean, 'card_holds'). Laid BY PROGRAM, IN A SANDBOX (cutbox-door.mjs). By AI agents, Wed Nov 11 2026. No macro, syntax, notation, axiom, sorry.
-/
import Derived.Test.YtmgaloopddiekaaGreatDoorRows
import GoSem.ClaimSeven
namespace Go.Proofs.YtmgaloopddiekaaGreatDoor
namespace Rows

/-- THE TIED CARD OF 'sluicewaylaw14.UnitArgs'. -/
def unitArgsCard : Claim7 := { stood := { row := unitArgsRow, standIns := [], harness := (true, "9911764ef3eed391aad8e6aab0905c4c872e9fc2227d9ae2273f452e55cb4ebb"), looks := true }, kinds := [], alts := [], laidByText := true, laidKinds := [.data], laidTests := true, laidLooks := .later }
def UnitArgsCardSaid : Prop := Claim7.holds Tryz.pinned (.plain (OpenSpec.ofChange unitArgsSpec)) unitArgsCard

/-- THE TIED CARD OF 'sluicewaylaw12.FlowArgs'. -/
def flowArgsCard : Claim7 := { stood := { row := flowArgsRow, standIns := [], harness := (true, "9911764ef3eed391aad8e6aab0905c4c872e9fc2227d9ae2273f452e55cb4ebb"), looks := true }, kinds := [], alts := [], laidByText := true, laidKinds := [.data], laidTests := true, laidLooks := .later }
def FlowArgsCardSaid : Prop := Claim7.holds Tryz.pinned (.plain (OpenSpec.ofChange flowArgsSpec)) flowArgsCard

/-- THE SECOND FORM's CARD OF 'sluicewaylaw14.UnitArgs'. -/
def unitArgsUptoCard : Claim7 := { stood := { row := unitArgsUptoRow, standIns := [], harness := (true, "9911764ef3eed391aad8e6aab0905c4c872e9fc2227d9ae2273f452e55cb4ebb"), looks := true }, kinds := [], alts := [], laidByText := true, laidKinds := [.data], laidTests := true, laidLooks := .later }
def UnitArgsUptoCardSaid : Prop := Claim7.holds Tryz.pinned (.plain (OpenSpec.upto unitArgsSpec)) unitArgsUptoCard

/-- THE SECOND FORM's CARD OF 'sluicewaylaw12.FlowArgs'. -/
def flowArgsUptoCard : Claim7 := { stood := { row := flowArgsUptoRow, standIns := [], harness := (true, "9911764ef3eed391aad8e6aab0905c4c872e9fc2227d9ae2273f452e55cb4ebb"), looks := true }, kinds := [], alts := [], laidByText := true, laidKinds := [.data], laidTests := true, laidLooks := .later }
def FlowArgsUptoCardSaid : Prop := Claim7.holds Tryz.pinned (.plain (OpenSpec.upto flowArgsSpec)) flowArgsUptoCard
end Rows
end Go.Proofs.YtmgaloopddiekaaGreatDoor
