/-
  DERIVED. GIVEN WITH THE SEED: THE CARDS: each row of YtpmiamphppcfeaaDoorRows.lean that lists a variable, with what it lists TIED to the program's text (the seventh form; the later family's looks); each row that meets fmt, with fmt's text TOLD by the authors' own Lean function (tested against real Go, not proved from fmt's source: count such statements apart). THE CARD IS WHAT COUNTS. Prove the row's statement (the work); the ties are given (YtpmiamphppcfeaaDoorTie.lean); close each card by the builder's one call (the guide's Derived/Test/ToyasCard.lean, 'card_holds'). Laid BY PROGRAM, IN A SANDBOX (cutbox-door.mjs). By AI agents, Wed Nov 11 2026. No macro, syntax, notation, axiom, sorry.
-/
import Derived.Test.YtpmiamphppcfeaaDoorRows
import GoSem.ClaimSeven
namespace Go.Proofs.YtpmiamphppcfeaaDoor
namespace Rows

/-- THE TIED CARD OF 'faaslaw24.EventRoundTrips'. -/
def eventRoundTripsCard : Claim7 := { stood := { row := eventRoundTripsRow, standIns := [], harness := (true, "c3304396caaa2e1e66704b83a427b1c9e0044407a21050ec6b0ad56dd60852b5"), looks := true }, kinds := [], alts := [], laidByText := true, laidKinds := [.data, .data, .data, .sentinel, .sentinel], laidTests := true, laidLooks := .later }
def EventRoundTripsCardSaid : Prop := Claim7.holds Tryd.pinned (.plain (OpenSpec.ofChange eventRoundTripsSpec)) eventRoundTripsCard

/-- THE TIED CARD OF 'faaslaw24.EventDescends'. -/
def eventDescendsCard : Claim7 := { stood := { row := eventDescendsRow, standIns := [], harness := (true, "c3304396caaa2e1e66704b83a427b1c9e0044407a21050ec6b0ad56dd60852b5"), looks := true }, kinds := [], alts := [], laidByText := true, laidKinds := [.data, .data, .data, .sentinel, .sentinel], laidTests := true, laidLooks := .later }
def EventDescendsCardSaid : Prop := Claim7.holds Tryd.pinned (.plain (OpenSpec.ofChange eventDescendsSpec)) eventDescendsCard

/-- THE SECOND FORM's CARD OF 'faaslaw24.EventRoundTrips'. -/
def eventRoundTripsUptoCard : Claim7 := { stood := { row := eventRoundTripsUptoRow, standIns := [], harness := (true, "c3304396caaa2e1e66704b83a427b1c9e0044407a21050ec6b0ad56dd60852b5"), looks := true }, kinds := [], alts := [], laidByText := true, laidKinds := [.data, .data, .data, .sentinel, .sentinel], laidTests := true, laidLooks := .later }
def EventRoundTripsUptoCardSaid : Prop := Claim7.holds Tryd.pinned (.plain (OpenSpec.upto eventRoundTripsSpec)) eventRoundTripsUptoCard

/-- THE SECOND FORM's CARD OF 'faaslaw24.EventDescends'. -/
def eventDescendsUptoCard : Claim7 := { stood := { row := eventDescendsUptoRow, standIns := [], harness := (true, "c3304396caaa2e1e66704b83a427b1c9e0044407a21050ec6b0ad56dd60852b5"), looks := true }, kinds := [], alts := [], laidByText := true, laidKinds := [.data, .data, .data, .sentinel, .sentinel], laidTests := true, laidLooks := .later }
def EventDescendsUptoCardSaid : Prop := Claim7.holds Tryd.pinned (.plain (OpenSpec.upto eventDescendsSpec)) eventDescendsUptoCard
end Rows
end Go.Proofs.YtpmiamphppcfeaaDoor
