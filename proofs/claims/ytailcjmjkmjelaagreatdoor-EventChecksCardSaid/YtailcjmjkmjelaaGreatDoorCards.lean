/-
  DERIVED. GIVEN WITH THE SEED: THE CARDS: each row of YtailcjmjkmjelaaGreatDoorRows.lean that lists a variable, with what it lists TIED to the program's text (the seventh form; the later family's looks); each row that meets fmt, with fmt's text TOLD by the authors' own Lean function (tested against real Go, not proved from fmt's source: count such statements apart). THE CARD IS WHAT COUNTS. Prove the row's statement (the work); the ties are given (YtailcjmjkmjelaaGreatDoorTie.lean); close each card by the builder's one call (the guide's Derived/Test/ToyasCard.lean, 'card_holds'). Laid BY PROGRAM, IN A SANDBOX (cutbox-door.mjs). By AI agents, Wed Nov 11 2026. No macro, syntax, notation, axiom, sorry.
-/
import Derived.Test.YtailcjmjkmjelaaGreatDoorRows
import GoSem.ClaimSeven
namespace Go.Proofs.YtailcjmjkmjelaaGreatDoor
namespace Rows

/-- THE TIED CARD OF 'faaslaw24.EventChecks'. -/
def eventChecksCard : Claim7 := { stood := { row := eventChecksRow, standIns := [], harness := (true, "91c87295c299d0c30c7342bc6d655940458f7f20f5f2a18608983f3980c851cc"), looks := true }, kinds := [], alts := [], laidByText := true, laidKinds := [.data, .data, .data, .sentinel, .sentinel], laidTests := true, laidLooks := .later }
def EventChecksCardSaid : Prop := Claim7.holds Tryz.pinned (.plain (OpenSpec.ofChange eventChecksSpec)) eventChecksCard

/-- THE SECOND FORM's CARD OF 'faaslaw24.EventChecks'. -/
def eventChecksUptoCard : Claim7 := { stood := { row := eventChecksUptoRow, standIns := [], harness := (true, "91c87295c299d0c30c7342bc6d655940458f7f20f5f2a18608983f3980c851cc"), looks := true }, kinds := [], alts := [], laidByText := true, laidKinds := [.data, .data, .data, .sentinel, .sentinel], laidTests := true, laidLooks := .later }
def EventChecksUptoCardSaid : Prop := Claim7.holds Tryz.pinned (.plain (OpenSpec.upto eventChecksSpec)) eventChecksUptoCard
end Rows
end Go.Proofs.YtailcjmjkmjelaaGreatDoor
