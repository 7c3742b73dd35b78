/-
  DERIVED. GIVEN WITH THE SEED: THE CARDS: each row of YthjcjnbngagagaaDoorRows.lean that lists a variable, with what it lists TIED to the program's text (the seventh form; the later family's looks); each row that meets fmt, with fmt's text TOLD by the authors' own Lean function (tested against real Go, not proved from fmt's source: count such statements apart). THE CARD IS WHAT COUNTS. Prove the row's statement (the work); the ties are given (YthjcjnbngagagaaDoorTie.lean); close each card by the builder's one call (the guide's Derived/Test/ToyasCard.lean, 'card_holds'). Laid BY PROGRAM, IN A SANDBOX (cutbox-door.mjs). By AI agents, Wed Nov 11 2026. No macro, syntax, notation, axiom, sorry.
-/
import Derived.Test.YthjcjnbngagagaaDoorRows
import GoSem.ClaimSeven
namespace Go.Proofs.YthjcjnbngagagaaDoor
namespace Rows

/-- THE TIED CARD OF 'faaslaw05.IdentLists'. -/
def identListsCard : Claim7 := { stood := { row := identListsRow, standIns := [], harness := (true, "80793c7f0208bd63382765e80dc618d0a29de20e97b5a96c6f929fe3343119ca"), looks := true }, kinds := [], alts := [], laidByText := true, laidKinds := [.data, .data, .data, .sentinel, .sentinel], laidTests := true, laidLooks := .later }
def IdentListsCardSaid : Prop := Claim7.holds Tryd.pinned (.plain (OpenSpec.ofChange identListsSpec)) identListsCard

/-- THE SECOND FORM's CARD OF 'faaslaw05.IdentLists'. -/
def identListsUptoCard : Claim7 := { stood := { row := identListsUptoRow, standIns := [], harness := (true, "80793c7f0208bd63382765e80dc618d0a29de20e97b5a96c6f929fe3343119ca"), looks := true }, kinds := [], alts := [], laidByText := true, laidKinds := [.data, .data, .data, .sentinel, .sentinel], laidTests := true, laidLooks := .later }
def IdentListsUptoCardSaid : Prop := Claim7.holds Tryd.pinned (.plain (OpenSpec.upto identListsSpec)) identListsUptoCard
end Rows
end Go.Proofs.YthjcjnbngagagaaDoor
