/-
  DERIVED. GIVEN WITH THE SEED: THE CARDS: each row of YtkalifgebccpcaaGreatDoorRows.lean that lists a variable, with what it lists TIED to the program's text (the seventh form; the later family's looks); each row that meets fmt, with fmt's text TOLD by the authors' own Lean function (tested against real Go, not proved from fmt's source: count such statements apart). THE CARD IS WHAT COUNTS. Prove the row's statement (the work); the ties are given (YtkalifgebccpcaaGreatDoorTie.lean); close each card by the builder's one call (the guide's Derived/Test/ToyasCard.lean, 'card_holds'). Laid BY PROGRAM, IN A SANDBOX (cutbox-door.mjs). By AI agents, Wed Nov 11 2026. No macro, syntax, notation, axiom, sorry.
-/
import Derived.Test.YtkalifgebccpcaaGreatDoorRows
import GoSem.ClaimSeven
namespace Go.Proofs.YtkalifgebccpcaaGreatDoor
namespace Rows

/-- THE TIED CARD OF 'faaslaw06.ValueDecodes'. -/
def valueDecodesCard : Claim7 := { stood := { row := valueDecodesRow, standIns := [], harness := (true, "431d341278d2e408ecdebfe01586518ca50540dd53b3fd2a4b15a4663f868f88"), looks := true }, kinds := [], alts := [], laidByText := true, laidKinds := [.data, .data, .data, .sentinel, .sentinel], laidTests := true, laidLooks := .later }
def ValueDecodesCardSaid : Prop := Claim7.holds Tryz.pinned (.plain (OpenSpec.ofChange valueDecodesSpec)) valueDecodesCard

/-- THE TIED CARD OF 'faaslaw06.ValueBuilds'. -/
def valueBuildsCard : Claim7 := { stood := { row := valueBuildsRow, standIns := [], harness := (true, "431d341278d2e408ecdebfe01586518ca50540dd53b3fd2a4b15a4663f868f88"), looks := true }, kinds := [], alts := [], laidByText := true, laidKinds := [.data, .data, .data, .sentinel, .sentinel], laidTests := true, laidLooks := .later }
def ValueBuildsCardSaid : Prop := Claim7.holds Tryz.pinned (.plain (OpenSpec.ofChange valueBuildsSpec)) valueBuildsCard

/-- THE TIED CARD OF 'faaslaw06.ValueCompares'. -/
def valueComparesCard : Claim7 := { stood := { row := valueComparesRow, standIns := [], harness := (true, "431d341278d2e408ecdebfe01586518ca50540dd53b3fd2a4b15a4663f868f88"), looks := true }, kinds := [], alts := [], laidByText := true, laidKinds := [.data, .data, .data, .sentinel, .sentinel], laidTests := true, laidLooks := .later }
def ValueComparesCardSaid : Prop := Claim7.holds Tryz.pinned (.plain (OpenSpec.ofChange valueComparesSpec)) valueComparesCard

/-- THE TIED CARD OF 'faaslaw06.ValueFinds'. -/
def valueFindsCard : Claim7 := { stood := { row := valueFindsRow, standIns := [], harness := (true, "431d341278d2e408ecdebfe01586518ca50540dd53b3fd2a4b15a4663f868f88"), looks := true }, kinds := [], alts := [], laidByText := true, laidKinds := [.data, .data, .data, .sentinel, .sentinel], laidTests := true, laidLooks := .later }
def ValueFindsCardSaid : Prop := Claim7.holds Tryz.pinned (.plain (OpenSpec.ofChange valueFindsSpec)) valueFindsCard

/-- THE SECOND FORM's CARD OF 'faaslaw06.ValueDecodes'. -/
def valueDecodesUptoCard : Claim7 := { stood := { row := valueDecodesUptoRow, standIns := [], harness := (true, "431d341278d2e408ecdebfe01586518ca50540dd53b3fd2a4b15a4663f868f88"), looks := true }, kinds := [], alts := [], laidByText := true, laidKinds := [.data, .data, .data, .sentinel, .sentinel], laidTests := true, laidLooks := .later }
def ValueDecodesUptoCardSaid : Prop := Claim7.holds Tryz.pinned (.plain (OpenSpec.upto valueDecodesSpec)) valueDecodesUptoCard

/-- THE SECOND FORM's CARD OF 'faaslaw06.ValueBuilds'. -/
def valueBuildsUptoCard : Claim7 := { stood := { row := valueBuildsUptoRow, standIns := [], harness := (true, "431d341278d2e408ecdebfe01586518ca50540dd53b3fd2a4b15a4663f868f88"), looks := true }, kinds := [], alts := [], laidByText := true, laidKinds := [.data, .data, .data, .sentinel, .sentinel], laidTests := true, laidLooks := .later }
def ValueBuildsUptoCardSaid : Prop := Claim7.holds Tryz.pinned (.plain (OpenSpec.upto valueBuildsSpec)) valueBuildsUptoCard

/-- THE SECOND FORM's CARD OF 'faaslaw06.ValueCompares'. -/
def valueComparesUptoCard : Claim7 := { stood := { row := valueComparesUptoRow, standIns := [], harness := (true, "431d341278d2e408ecdebfe01586518ca50540dd53b3fd2a4b15a4663f868f88"), looks := true }, kinds := [], alts := [], laidByText := true, laidKinds := [.data, .data, .data, .sentinel, .sentinel], laidTests := true, laidLooks := .later }
def ValueComparesUptoCardSaid : Prop := Claim7.holds Tryz.pinned (.plain (OpenSpec.upto valueComparesSpec)) valueComparesUptoCard

/-- THE SECOND FORM's CARD OF 'faaslaw06.ValueFinds'. -/
def valueFindsUptoCard : Claim7 := { stood := { row := valueFindsUptoRow, standIns := [], harness := (true, "431d341278d2e408ecdebfe01586518ca50540dd53b3fd2a4b15a4663f868f88"), looks := true }, kinds := [], alts := [], laidByText := true, laidKinds := [.data, .data, .data, .sentinel, .sentinel], laidTests := true, laidLooks := .later }
def ValueFindsUptoCardSaid : Prop := Claim7.holds Tryz.pinned (.plain (OpenSpec.upto valueFindsSpec)) valueFindsUptoCard
end Rows
end Go.Proofs.YtkalifgebccpcaaGreatDoor
