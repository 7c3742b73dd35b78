/-
  DERIVED. GIVEN WITH THE SEED: THE CARDS: each row of YtiddaamglmmnaaaGreatDoorRows.lean that lists a variable, with what it lists TIED to the program's text (the seventh form; the later family's looks); each row that meets fmt, with fmt's text TOLD by the authors' own Lean function (tested against real Go, not proved from fmt's source: count such statements apart). THE CARD IS WHAT COUNTS. Prove the row's statement (the work); the ties are given (YtiddaamglmmnaaaGreatDoorTie.lean); close each card by the builder's one call (the guide's Derived/Test/ToyasCard.lean, 'card_holds'). Laid BY PROGRAM, IN A SANDBOX (cutbox-door.mjs). By AI agents, Wed Nov 11 2026. No macro, syntax, notation, axiom, sorry.
-/
import Derived.Test.YtiddaamglmmnaaaGreatDoorRows
import GoSem.ClaimSeven
namespace Go.Proofs.YtiddaamglmmnaaaGreatDoor
namespace Rows

/-- THE TIED CARD OF 'faaslaw47.OutboxDoes'. -/
def outboxDoesCard : Claim7 := { stood := { row := outboxDoesRow, standIns := [], harness := (true, "5aef715249c51b08c4a8a410cc6ae86b3729dc7ed856b991850472485fdf5364"), looks := true }, kinds := [], alts := [], laidByText := true, laidKinds := [.data, .data, .data, .sentinel, .sentinel], laidTests := true, laidLooks := .later }
def OutboxDoesCardSaid : Prop := Claim7.holds Tryz.pinned (.plain (OpenSpec.ofChange outboxDoesSpec)) outboxDoesCard

/-- THE SECOND FORM's CARD OF 'faaslaw47.OutboxDoes'. -/
def outboxDoesUptoCard : Claim7 := { stood := { row := outboxDoesUptoRow, standIns := [], harness := (true, "5aef715249c51b08c4a8a410cc6ae86b3729dc7ed856b991850472485fdf5364"), looks := true }, kinds := [], alts := [], laidByText := true, laidKinds := [.data, .data, .data, .sentinel, .sentinel], laidTests := true, laidLooks := .later }
def OutboxDoesUptoCardSaid : Prop := Claim7.holds Tryz.pinned (.plain (OpenSpec.upto outboxDoesSpec)) outboxDoesUptoCard
end Rows
end Go.Proofs.YtiddaamglmmnaaaGreatDoor
