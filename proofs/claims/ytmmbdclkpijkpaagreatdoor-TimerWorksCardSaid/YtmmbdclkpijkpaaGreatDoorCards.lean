/-
  DERIVED. GIVEN WITH THE SEED: THE CARDS: each row of YtmmbdclkpijkpaaGreatDoorRows.lean that lists a variable, with what it lists TIED to the program's text (the seventh form; the later family's looks); each row that meets fmt, with fmt's text TOLD by the authors' own Lean function (tested against real Go, not proved from fmt's source: count such statements apart). THE CARD IS WHAT COUNTS. Prove the row's statement (the work); the ties are given (YtmmbdclkpijkpaaGreatDoorTie.lean); close each card by the builder's one call (the guide's Derived/Test/ToyasCard.lean, 'card_holds'). Laid BY PROGRAM, IN A SANDBOX (cutbox-door.mjs). By AI agents, Wed Nov 11 2026. No macro, syntax, notation, axiom, sorry.
-/
import Derived.Test.YtmmbdclkpijkpaaGreatDoorRows
import GoSem.ClaimSeven
namespace Go.Proofs.YtmmbdclkpijkpaaGreatDoor
namespace Rows

/-- THE TIED CARD OF 'faaslaw49.TimerWorks'. -/
def timerWorksCard : Claim7 := { stood := { row := timerWorksRow, standIns := [], harness := (true, "b7edd7968d5f700afd5a81bf1148a66ffa8214bf6dee28d36b420904b3612f7c"), looks := true }, kinds := [], alts := [], laidByText := true, laidKinds := [.data, .data, .data], laidTests := true, laidLooks := .later }
def TimerWorksCardSaid : Prop := Claim7.holds Tryz.pinned (.plain (OpenSpec.ofChange timerWorksSpec)) timerWorksCard

/-- THE TIED CARD OF 'faaslaw49.TimerRecovers'. -/
def timerRecoversCard : Claim7 := { stood := { row := timerRecoversRow, standIns := [], harness := (true, "b7edd7968d5f700afd5a81bf1148a66ffa8214bf6dee28d36b420904b3612f7c"), looks := true }, kinds := [], alts := [], laidByText := true, laidKinds := [.data, .data, .data, .sentinel, .sentinel], laidTests := true, laidLooks := .later }
def TimerRecoversCardSaid : Prop := Claim7.holds Tryz.pinned (.plain (OpenSpec.ofChange timerRecoversSpec)) timerRecoversCard

/-- THE SECOND FORM's CARD OF 'faaslaw49.TimerWorks'. -/
def timerWorksUptoCard : Claim7 := { stood := { row := timerWorksUptoRow, standIns := [], harness := (true, "b7edd7968d5f700afd5a81bf1148a66ffa8214bf6dee28d36b420904b3612f7c"), looks := true }, kinds := [], alts := [], laidByText := true, laidKinds := [.data, .data, .data], laidTests := true, laidLooks := .later }
def TimerWorksUptoCardSaid : Prop := Claim7.holds Tryz.pinned (.plain (OpenSpec.upto timerWorksSpec)) timerWorksUptoCard

/-- THE SECOND FORM's CARD OF 'faaslaw49.TimerRecovers'. -/
def timerRecoversUptoCard : Claim7 := { stood := { row := timerRecoversUptoRow, standIns := [], harness := (true, "b7edd7968d5f700afd5a81bf1148a66ffa8214bf6dee28d36b420904b3612f7c"), looks := true }, kinds := [], alts := [], laidByText := true, laidKinds := [.data, .data, .data, .sentinel, .sentinel], laidTests := true, laidLooks := .later }
def TimerRecoversUptoCardSaid : Prop := Claim7.holds Tryz.pinned (.plain (OpenSpec.upto timerRecoversSpec)) timerRecoversUptoCard
end Rows
end Go.Proofs.YtmmbdclkpijkpaaGreatDoor
