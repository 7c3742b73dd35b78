/-
  DERIVED. GIVEN WITH THE SEED: THE CARDS: each row of YtoegakndmanfoaaGreatDoorRows.lean that lists a variable, with what it lists TIED to the program's text (the seventh form; the later family's looks); each row that meets fmt, with fmt's text TOLD by the authors' own Lean function (tested against real Go, not proved from fmt's source: count such statements apart). THE CARD IS WHAT COUNTS. Prove the row's statement (the work); the ties are given (YtoegakndmanfoaaGreatDoorTie.lean); close each card by the builder's one call (the guide's Derived/Test/ToyasCard.lean, 'card_holds'). Laid BY PROGRAM, IN A SANDBOX (cutbox-door.mjs). By AI agents, Wed Nov 11 2026. No macro, syntax, notation, axiom, sorry.
-/
import Derived.Test.YtoegakndmanfoaaGreatDoorRows
import GoSem.ClaimSeven
namespace Go.Proofs.YtoegakndmanfoaaGreatDoor
namespace Rows

/-- THE TIED CARD OF 'faastop.TopInOrder'. -/
def topInOrderCard : Claim7 := { stood := { row := topInOrderRow, standIns := [], harness := (true, "1b5eb53d60d7ac628a63279fc83f71af97377a11570a7a85a99f3db06c05a607"), looks := true }, kinds := [], alts := [], laidByText := true, laidKinds := [.data, .data, .data, .sentinel, .sentinel, .data], laidTests := true, laidLooks := .later }
def TopInOrderCardSaid : Prop := Claim7.holds Tryz.pinned (.plain (OpenSpec.ofChange topInOrderSpec)) topInOrderCard

/-- THE SECOND FORM's CARD OF 'faastop.TopInOrder'. -/
def topInOrderUptoCard : Claim7 := { stood := { row := topInOrderUptoRow, standIns := [], harness := (true, "1b5eb53d60d7ac628a63279fc83f71af97377a11570a7a85a99f3db06c05a607"), looks := true }, kinds := [], alts := [], laidByText := true, laidKinds := [.data, .data, .data, .sentinel, .sentinel, .data], laidTests := true, laidLooks := .later }
def TopInOrderUptoCardSaid : Prop := Claim7.holds Tryz.pinned (.plain (OpenSpec.upto topInOrderSpec)) topInOrderUptoCard
end Rows
end Go.Proofs.YtoegakndmanfoaaGreatDoor
