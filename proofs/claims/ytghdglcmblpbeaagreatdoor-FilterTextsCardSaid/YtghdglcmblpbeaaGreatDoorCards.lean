/-
  DERIVED. GIVEN WITH THE SEED: THE CARDS: each row of YtghdglcmblpbeaaGreatDoorRows.lean that lists a variable, with what it lists TIED to the program's text (the seventh form; the later family's looks); each row that meets fmt, with fmt's text TOLD by the authors' own Lean function (tested against real Go, not proved from fmt's source: count such statements apart). THE CARD IS WHAT COUNTS. Prove the row's statement (the work); the ties are given (YtghdglcmblpbeaaGreatDoorTie.lean); close each card by the builder's one call (the guide's Derived/Test/ToyasCard.lean, 'card_holds'). Laid BY PROGRAM, IN A SANDBOX (cutbox-door.mjs). By AI agents, Wed Nov 11 2026. No macro, syntax, notation, axiom, sorry.
-/
import Derived.Test.YtghdglcmblpbeaaGreatDoorRows
import GoSem.ClaimSeven
namespace Go.Proofs.YtghdglcmblpbeaaGreatDoor
namespace Rows

/-- THE TIED CARD OF 'faaslaw25.FilterMatches'. -/
def filterMatchesCard : Claim7 := { stood := { row := filterMatchesRow, standIns := [], harness := (true, "2c39a169d213648abec23aed744df39bd95022c3cb44a45c03361d0b2ebf59b9"), looks := true }, kinds := [], alts := [], laidByText := true, laidKinds := [.data, .data, .data, .sentinel, .sentinel], laidTests := true, laidLooks := .later }
def FilterMatchesCardSaid : Prop := Claim7.holds Tryz.pinned (.plain (OpenSpec.ofChange filterMatchesSpec)) filterMatchesCard

/-- THE TIED CARD OF 'faaslaw25.FilterTexts'. -/
def filterTextsCard : Claim7 := { stood := { row := filterTextsRow, standIns := [], harness := (true, "2c39a169d213648abec23aed744df39bd95022c3cb44a45c03361d0b2ebf59b9"), looks := true }, kinds := [], alts := [], laidByText := true, laidKinds := [.data, .data, .data, .sentinel, .sentinel], laidTests := true, laidLooks := .later }
def FilterTextsCardSaid : Prop := Claim7.holds Tryz.pinned (.plain (OpenSpec.ofChange filterTextsSpec)) filterTextsCard

/-- THE TIED CARD OF 'faaslaw25.FilterDecides'. -/
def filterDecidesCard : Claim7 := { stood := { row := filterDecidesRow, standIns := [], harness := (true, "2c39a169d213648abec23aed744df39bd95022c3cb44a45c03361d0b2ebf59b9"), looks := true }, kinds := [], alts := [], laidByText := true, laidKinds := [.data, .data, .data, .sentinel, .sentinel], laidTests := true, laidLooks := .later }
def FilterDecidesCardSaid : Prop := Claim7.holds Tryz.pinned (.plain (OpenSpec.ofChange filterDecidesSpec)) filterDecidesCard

/-- THE TIED CARD OF 'faaslaw25.FilterImplies'. -/
def filterImpliesCard : Claim7 := { stood := { row := filterImpliesRow, standIns := [], harness := (true, "2c39a169d213648abec23aed744df39bd95022c3cb44a45c03361d0b2ebf59b9"), looks := true }, kinds := [], alts := [], laidByText := true, laidKinds := [.data, .data, .data, .sentinel, .sentinel], laidTests := true, laidLooks := .later }
def FilterImpliesCardSaid : Prop := Claim7.holds Tryz.pinned (.plain (OpenSpec.ofChange filterImpliesSpec)) filterImpliesCard

/-- THE TIED CARD OF 'faaslaw25.FilterJoins'. -/
def filterJoinsCard : Claim7 := { stood := { row := filterJoinsRow, standIns := [], harness := (true, "2c39a169d213648abec23aed744df39bd95022c3cb44a45c03361d0b2ebf59b9"), looks := true }, kinds := [], alts := [], laidByText := true, laidKinds := [.data, .data, .data, .sentinel, .sentinel], laidTests := true, laidLooks := .later }
def FilterJoinsCardSaid : Prop := Claim7.holds Tryz.pinned (.plain (OpenSpec.ofChange filterJoinsSpec)) filterJoinsCard

/-- THE TIED CARD OF 'faaslaw25.FilterSelects'. -/
def filterSelectsCard : Claim7 := { stood := { row := filterSelectsRow, standIns := [], harness := (true, "2c39a169d213648abec23aed744df39bd95022c3cb44a45c03361d0b2ebf59b9"), looks := true }, kinds := [], alts := [], laidByText := true, laidKinds := [.data, .data, .data, .sentinel, .sentinel], laidTests := true, laidLooks := .later }
def FilterSelectsCardSaid : Prop := Claim7.holds Tryz.pinned (.plain (OpenSpec.ofChange filterSelectsSpec)) filterSelectsCard

/-- THE SECOND FORM's CARD OF 'faaslaw25.FilterMatches'. -/
def filterMatchesUptoCard : Claim7 := { stood := { row := filterMatchesUptoRow, standIns := [], harness := (true, "2c39a169d213648abec23aed744df39bd95022c3cb44a45c03361d0b2ebf59b9"), looks := true }, kinds := [], alts := [], laidByText := true, laidKinds := [.data, .data, .data, .sentinel, .sentinel], laidTests := true, laidLooks := .later }
def FilterMatchesUptoCardSaid : Prop := Claim7.holds Tryz.pinned (.plain (OpenSpec.upto filterMatchesSpec)) filterMatchesUptoCard

/-- THE SECOND FORM's CARD OF 'faaslaw25.FilterTexts'. -/
def filterTextsUptoCard : Claim7 := { stood := { row := filterTextsUptoRow, standIns := [], harness := (true, "2c39a169d213648abec23aed744df39bd95022c3cb44a45c03361d0b2ebf59b9"), looks := true }, kinds := [], alts := [], laidByText := true, laidKinds := [.data, .data, .data, .sentinel, .sentinel], laidTests := true, laidLooks := .later }
def FilterTextsUptoCardSaid : Prop := Claim7.holds Tryz.pinned (.plain (OpenSpec.upto filterTextsSpec)) filterTextsUptoCard

/-- THE SECOND FORM's CARD OF 'faaslaw25.FilterDecides'. -/
def filterDecidesUptoCard : Claim7 := { stood := { row := filterDecidesUptoRow, standIns := [], harness := (true, "2c39a169d213648abec23aed744df39bd95022c3cb44a45c03361d0b2ebf59b9"), looks := true }, kinds := [], alts := [], laidByText := true, laidKinds := [.data, .data, .data, .sentinel, .sentinel], laidTests := true, laidLooks := .later }
def FilterDecidesUptoCardSaid : Prop := Claim7.holds Tryz.pinned (.plain (OpenSpec.upto filterDecidesSpec)) filterDecidesUptoCard

/-- THE SECOND FORM's CARD OF 'faaslaw25.FilterImplies'. -/
def filterImpliesUptoCard : Claim7 := { stood := { row := filterImpliesUptoRow, standIns := [], harness := (true, "2c39a169d213648abec23aed744df39bd95022c3cb44a45c03361d0b2ebf59b9"), looks := true }, kinds := [], alts := [], laidByText := true, laidKinds := [.data, .data, .data, .sentinel, .sentinel], laidTests := true, laidLooks := .later }
def FilterImpliesUptoCardSaid : Prop := Claim7.holds Tryz.pinned (.plain (OpenSpec.upto filterImpliesSpec)) filterImpliesUptoCard

/-- THE SECOND FORM's CARD OF 'faaslaw25.FilterJoins'. -/
def filterJoinsUptoCard : Claim7 := { stood := { row := filterJoinsUptoRow, standIns := [], harness := (true, "2c39a169d213648abec23aed744df39bd95022c3cb44a45c03361d0b2ebf59b9"), looks := true }, kinds := [], alts := [], laidByText := true, laidKinds := [.data, .data, .data, .sentinel, .sentinel], laidTests := true, laidLooks := .later }
def FilterJoinsUptoCardSaid : Prop := Claim7.holds Tryz.pinned (.plain (OpenSpec.upto filterJoinsSpec)) filterJoinsUptoCard

/-- THE SECOND FORM's CARD OF 'faaslaw25.FilterSelects'. -/
def filterSelectsUptoCard : Claim7 := { stood := { row := filterSelectsUptoRow, standIns := [], harness := (true, "2c39a169d213648abec23aed744df39bd95022c3cb44a45c03361d0b2ebf59b9"), looks := true }, kinds := [], alts := [], laidByText := true, laidKinds := [.data, .data, .data, .sentinel, .sentinel], laidTests := true, laidLooks := .later }
def FilterSelectsUptoCardSaid : Prop := Claim7.holds Tryz.pinned (.plain (OpenSpec.upto filterSelectsSpec)) filterSelectsUptoCard
end Rows
end Go.Proofs.YtghdglcmblpbeaaGreatDoor
