/-
  DERIVED. GIVEN WITH THE SEED: THE CARDS: each row of YtkalifgebccpcaaDoorRows.lean that lists a variable, with what it lists TIED to the program's text (the seventh form; the later family's looks); each row that meets fmt, with fmt's text TOLD by the authors' own Lean function (tested against real Go, not proved from fmt's source: count such statements apart). THE CARD IS WHAT COUNTS. Prove the row's statement (the work); the ties are given (YtkalifgebccpcaaDoorTie.lean); close each card by the builder's one call (the guide's Derived/Test/ToyasCard.lean, 'card_holds'). Laid BY PROGRAM, IN A SANDBOX (cutbox-door.mjs). By AI agents, Wed Nov 11 2026. No macro, syntax, notation, axiom, sorry.
-/
import Derived.Test.YtkalifgebccpcaaDoorRows
import GoSem.ClaimSeven
namespace Go.Proofs.YtkalifgebccpcaaDoor
namespace Rows

/-- THE TIED CARD OF 'faaslaw06.ValueChecks'. -/
def valueChecksCard : Claim7 := { stood := { row := valueChecksRow, standIns := [], harness := (true, "cc85af8d2236b249ec78ea8b3d00c2a8cbe6a95d2b3547056cc87f0d98586ce8"), looks := true }, kinds := [], alts := [], laidByText := true, laidKinds := [.data, .data, .data, .sentinel, .sentinel], laidTests := true, laidLooks := .later }
def ValueChecksCardSaid : Prop := Claim7.holds Tryd.pinned (.plain (OpenSpec.ofChange valueChecksSpec)) valueChecksCard

/-- THE TIED CARD OF 'faaslaw06.ValueOrders'. -/
def valueOrdersCard : Claim7 := { stood := { row := valueOrdersRow, standIns := [], harness := (true, "cc85af8d2236b249ec78ea8b3d00c2a8cbe6a95d2b3547056cc87f0d98586ce8"), looks := true }, kinds := [], alts := [], laidByText := true, laidKinds := [.data, .data, .data, .sentinel, .sentinel], laidTests := true, laidLooks := .later }
def ValueOrdersCardSaid : Prop := Claim7.holds Tryd.pinned (.plain (OpenSpec.ofChange valueOrdersSpec)) valueOrdersCard

/-- THE TIED CARD OF 'faaslaw06.ValueRoundTrips'. -/
def valueRoundTripsCard : Claim7 := { stood := { row := valueRoundTripsRow, standIns := [], harness := (true, "cc85af8d2236b249ec78ea8b3d00c2a8cbe6a95d2b3547056cc87f0d98586ce8"), looks := true }, kinds := [], alts := [], laidByText := true, laidKinds := [.data, .data, .data, .sentinel, .sentinel], laidTests := true, laidLooks := .later }
def ValueRoundTripsCardSaid : Prop := Claim7.holds Tryd.pinned (.plain (OpenSpec.ofChange valueRoundTripsSpec)) valueRoundTripsCard

/-- THE SECOND FORM's CARD OF 'faaslaw06.ValueChecks'. -/
def valueChecksUptoCard : Claim7 := { stood := { row := valueChecksUptoRow, standIns := [], harness := (true, "cc85af8d2236b249ec78ea8b3d00c2a8cbe6a95d2b3547056cc87f0d98586ce8"), looks := true }, kinds := [], alts := [], laidByText := true, laidKinds := [.data, .data, .data, .sentinel, .sentinel], laidTests := true, laidLooks := .later }
def ValueChecksUptoCardSaid : Prop := Claim7.holds Tryd.pinned (.plain (OpenSpec.upto valueChecksSpec)) valueChecksUptoCard

/-- THE SECOND FORM's CARD OF 'faaslaw06.ValueOrders'. -/
def valueOrdersUptoCard : Claim7 := { stood := { row := valueOrdersUptoRow, standIns := [], harness := (true, "cc85af8d2236b249ec78ea8b3d00c2a8cbe6a95d2b3547056cc87f0d98586ce8"), looks := true }, kinds := [], alts := [], laidByText := true, laidKinds := [.data, .data, .data, .sentinel, .sentinel], laidTests := true, laidLooks := .later }
def ValueOrdersUptoCardSaid : Prop := Claim7.holds Tryd.pinned (.plain (OpenSpec.upto valueOrdersSpec)) valueOrdersUptoCard

/-- THE SECOND FORM's CARD OF 'faaslaw06.ValueRoundTrips'. -/
def valueRoundTripsUptoCard : Claim7 := { stood := { row := valueRoundTripsUptoRow, standIns := [], harness := (true, "cc85af8d2236b249ec78ea8b3d00c2a8cbe6a95d2b3547056cc87f0d98586ce8"), looks := true }, kinds := [], alts := [], laidByText := true, laidKinds := [.data, .data, .data, .sentinel, .sentinel], laidTests := true, laidLooks := .later }
def ValueRoundTripsUptoCardSaid : Prop := Claim7.holds Tryd.pinned (.plain (OpenSpec.upto valueRoundTripsSpec)) valueRoundTripsUptoCard
end Rows
end Go.Proofs.YtkalifgebccpcaaDoor
