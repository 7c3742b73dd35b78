/-
  DERIVED. GIVEN WITH THE SEED: THE CARDS: each row of YtkoiaconljdbeaaGreatDoorRows.lean that lists a variable, with what it lists TIED to the program's text (the seventh form; the later family's looks); each row that meets fmt, with fmt's text TOLD by the authors' own Lean function (tested against real Go, not proved from fmt's source: count such statements apart). THE CARD IS WHAT COUNTS. Prove the row's statement (the work); the ties are given (YtkoiaconljdbeaaGreatDoorTie.lean); close each card by the builder's one call (the guide's Derived/Test/ToyasCard.lean, 'card_holds'). Laid BY PROGRAM, IN A SANDBOX (cutbox-door.mjs). By AI agents, Wed Nov 11 2026. No macro, syntax, notation, axiom, sorry.
-/
import Derived.Test.YtkoiaconljdbeaaGreatDoorRows
import GoSem.ClaimSeven
namespace Go.Proofs.YtkoiaconljdbeaaGreatDoor
namespace Rows

/-- THE TIED CARD OF 'faaslaw49.TimerWorks'. -/
def timerWorksCard : Claim7 := { stood := { row := timerWorksRow, standIns := [], harness := (true, "055bf260db46bfed7efad2b7d28a16a6dec3b05cb087dc419f2f7ee9ca554ed4"), looks := true }, kinds := [], alts := [], laidByText := true, laidKinds := [.data, .data, .data], laidTests := true, laidLooks := .later }
def TimerWorksCardSaid : Prop := Claim7.holds Tryz.pinned (.plain (OpenSpec.ofChange timerWorksSpec)) timerWorksCard

/-- THE TIED CARD OF 'faaslaw49.TimerRecords'. -/
def timerRecordsCard : Claim7 := { stood := { row := timerRecordsRow, standIns := [], harness := (true, "055bf260db46bfed7efad2b7d28a16a6dec3b05cb087dc419f2f7ee9ca554ed4"), looks := true }, kinds := [], alts := [], laidByText := true, laidKinds := [.data, .data, .data, .sentinel, .sentinel], laidTests := true, laidLooks := .later }
def TimerRecordsCardSaid : Prop := Claim7.holds Tryz.pinned (.plain (OpenSpec.ofChange timerRecordsSpec)) timerRecordsCard

/-- THE TIED CARD OF 'faaslaw49.TimerRecovers'. -/
def timerRecoversCard : Claim7 := { stood := { row := timerRecoversRow, standIns := [], harness := (true, "055bf260db46bfed7efad2b7d28a16a6dec3b05cb087dc419f2f7ee9ca554ed4"), looks := true }, kinds := [], alts := [], laidByText := true, laidKinds := [.data, .data, .data, .sentinel, .sentinel], laidTests := true, laidLooks := .later }
def TimerRecoversCardSaid : Prop := Claim7.holds Tryz.pinned (.plain (OpenSpec.ofChange timerRecoversSpec)) timerRecoversCard

/-- THE SECOND FORM's CARD OF 'faaslaw49.TimerWorks'. -/
def timerWorksUptoCard : Claim7 := { stood := { row := timerWorksUptoRow, standIns := [], harness := (true, "055bf260db46bfed7efad2b7d28a16a6dec3b05cb087dc419f2f7ee9ca554ed4"), looks := true }, kinds := [], alts := [], laidByText := true, laidKinds := [.data, .data, .data], laidTests := true, laidLooks := .later }
def TimerWorksUptoCardSaid : Prop := Claim7.holds Tryz.pinned (.plain (OpenSpec.upto timerWorksSpec)) timerWorksUptoCard

/-- THE SECOND FORM's CARD OF 'faaslaw49.TimerRecords'. -/
def timerRecordsUptoCard : Claim7 := { stood := { row := timerRecordsUptoRow, standIns := [], harness := (true, "055bf260db46bfed7efad2b7d28a16a6dec3b05cb087dc419f2f7ee9ca554ed4"), looks := true }, kinds := [], alts := [], laidByText := true, laidKinds := [.data, .data, .data, .sentinel, .sentinel], laidTests := true, laidLooks := .later }
def TimerRecordsUptoCardSaid : Prop := Claim7.holds Tryz.pinned (.plain (OpenSpec.upto timerRecordsSpec)) timerRecordsUptoCard

/-- THE SECOND FORM's CARD OF 'faaslaw49.TimerRecovers'. -/
def timerRecoversUptoCard : Claim7 := { stood := { row := timerRecoversUptoRow, standIns := [], harness := (true, "055bf260db46bfed7efad2b7d28a16a6dec3b05cb087dc419f2f7ee9ca554ed4"), looks := true }, kinds := [], alts := [], laidByText := true, laidKinds := [.data, .data, .data, .sentinel, .sentinel], laidTests := true, laidLooks := .later }
def TimerRecoversUptoCardSaid : Prop := Claim7.holds Tryz.pinned (.plain (OpenSpec.upto timerRecoversSpec)) timerRecoversUptoCard
end Rows
end Go.Proofs.YtkoiaconljdbeaaGreatDoor
