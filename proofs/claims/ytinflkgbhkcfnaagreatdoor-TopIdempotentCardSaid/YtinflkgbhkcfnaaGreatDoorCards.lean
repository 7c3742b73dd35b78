/-
  DERIVED. GIVEN WITH THE SEED: THE CARDS: each row of YtinflkgbhkcfnaaGreatDoorRows.lean that lists a variable, with what it lists TIED to the program's text (the seventh form; the later family's looks); each row that meets fmt, with fmt's text TOLD by the authors' own Lean function (tested against real Go, not proved from fmt's source: count such statements apart). THE CARD IS WHAT COUNTS. Prove the row's statement (the work); the ties are given (YtinflkgbhkcfnaaGreatDoorTie.lean); close each card by the builder's one call (the guide's Derived/Test/ToyasCard.lean, 'card_holds'). Laid BY PROGRAM, IN A SANDBOX (cutbox-door.mjs). By AI agents, Wed Nov 11 2026. No macro, syntax, notation, axiom, sorry.
-/
import Derived.Test.YtinflkgbhkcfnaaGreatDoorRows
import GoSem.ClaimSeven
namespace Go.Proofs.YtinflkgbhkcfnaaGreatDoor
namespace Rows

/-- THE TIED CARD OF 'faastop.TopIdempotent'. -/
def topIdempotentCard : Claim7 := { stood := { row := topIdempotentRow, standIns := [], harness := (true, "e5ec016e08a0366a437198b38c7915f6381847bdf41674d6a6b80638eb22c7f1"), looks := true }, kinds := [], alts := [], laidByText := true, laidKinds := [.data, .data, .data, .sentinel, .sentinel, .data], laidTests := true, laidLooks := .later }
def TopIdempotentCardSaid : Prop := Claim7.holds Tryz.pinned (.plain (OpenSpec.ofChange topIdempotentSpec)) topIdempotentCard

/-- THE SECOND FORM's CARD OF 'faastop.TopIdempotent'. -/
def topIdempotentUptoCard : Claim7 := { stood := { row := topIdempotentUptoRow, standIns := [], harness := (true, "e5ec016e08a0366a437198b38c7915f6381847bdf41674d6a6b80638eb22c7f1"), looks := true }, kinds := [], alts := [], laidByText := true, laidKinds := [.data, .data, .data, .sentinel, .sentinel, .data], laidTests := true, laidLooks := .later }
def TopIdempotentUptoCardSaid : Prop := Claim7.holds Tryz.pinned (.plain (OpenSpec.upto topIdempotentSpec)) topIdempotentUptoCard
end Rows
end Go.Proofs.YtinflkgbhkcfnaaGreatDoor
