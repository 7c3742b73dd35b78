/-
  DERIVED. GIVEN WITH THE SEED: THE CARDS: each row of YtphnhpcjnmmhiaaGreatDoorRows.lean that lists a variable, with what it lists TIED to the program's text (the seventh form; the later family's looks); each row that meets fmt, with fmt's text TOLD by the authors' own Lean function (tested against real Go, not proved from fmt's source: count such statements apart). THE CARD IS WHAT COUNTS. Prove the row's statement (the work); the ties are given (YtphnhpcjnmmhiaaGreatDoorTie.lean); close each card by the builder's one call (the guide's Derived/Test/ToyasCard.lean, 'card_holds'). Laid BY PROGRAM, IN A SANDBOX (cutbox-door.mjs). By AI agents, Wed Nov 11 2026. No macro, syntax, notation, axiom, sorry.
-/
import Derived.Test.YtphnhpcjnmmhiaaGreatDoorRows
import GoSem.ClaimSeven
namespace Go.Proofs.YtphnhpcjnmmhiaaGreatDoor
namespace Rows

/-- THE TIED CARD OF 'faaslaw35.HostDoes'. -/
def hostDoesCard : Claim7 := { stood := { row := hostDoesRow, standIns := [], harness := (true, "db602c5360f18306c3fd6abf30698f6829d4f23a83fae2e05fbe3148eacf25cf"), looks := true }, kinds := [], alts := [], laidByText := true, laidKinds := [.data, .data, .data, .data, .sentinel, .sentinel, .pinned], laidTests := true, laidLooks := .later }
def HostDoesCardSaid : Prop := Claim7.holds Tryz.pinned (.plain (OpenSpec.ofChange hostDoesSpec)) hostDoesCard

/-- THE SECOND FORM's CARD OF 'faaslaw35.HostDoes'. -/
def hostDoesUptoCard : Claim7 := { stood := { row := hostDoesUptoRow, standIns := [], harness := (true, "db602c5360f18306c3fd6abf30698f6829d4f23a83fae2e05fbe3148eacf25cf"), looks := true }, kinds := [], alts := [], laidByText := true, laidKinds := [.data, .data, .data, .data, .sentinel, .sentinel, .pinned], laidTests := true, laidLooks := .later }
def HostDoesUptoCardSaid : Prop := Claim7.holds Tryz.pinned (.plain (OpenSpec.upto hostDoesSpec)) hostDoesUptoCard
end Rows
end Go.Proofs.YtphnhpcjnmmhiaaGreatDoor
