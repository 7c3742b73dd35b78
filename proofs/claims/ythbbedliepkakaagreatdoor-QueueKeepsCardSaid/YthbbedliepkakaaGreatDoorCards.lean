/-
  DERIVED. GIVEN WITH THE SEED: THE CARDS: each row of YthbbedliepkakaaGreatDoorRows.lean that lists a variable, with what it lists TIED to the program's text (the seventh form; the later family's looks); each row that meets fmt, with fmt's text TOLD by the authors' own Lean function (tested against real Go, not proved from fmt's source: count such statements apart). THE CARD IS WHAT COUNTS. Prove the row's statement (the work); the ties are given (YthbbedliepkakaaGreatDoorTie.lean); close each card by the builder's one call (the guide's Derived/Test/ToyasCard.lean, 'card_holds'). Laid BY PROGRAM, IN A SANDBOX (cutbox-door.mjs). By AI agents, Wed Nov 11 2026. No macro, syntax, notation, axiom, sorry.
-/
import Derived.Test.YthbbedliepkakaaGreatDoorRows
import GoSem.ClaimSeven
namespace Go.Proofs.YthbbedliepkakaaGreatDoor
namespace Rows

/-- THE TIED CARD OF 'faaslaw28.QueueKeeps'. -/
def queueKeepsCard : Claim7 := { stood := { row := queueKeepsRow, standIns := [], harness := (true, "cd62ef84d5b0a9af441127df6bf0115558ba6a693ac5ac06595c37bbda303685"), looks := true }, kinds := [], alts := [], laidByText := true, laidKinds := [.data, .data, .data, .sentinel, .sentinel], laidTests := true, laidLooks := .later }
def QueueKeepsCardSaid : Prop := Claim7.holds Tryz.pinned (.plain (OpenSpec.ofChange queueKeepsSpec)) queueKeepsCard

/-- THE TIED CARD OF 'faaslaw28.QueueReceives'. -/
def queueReceivesCard : Claim7 := { stood := { row := queueReceivesRow, standIns := [], harness := (true, "cd62ef84d5b0a9af441127df6bf0115558ba6a693ac5ac06595c37bbda303685"), looks := true }, kinds := [], alts := [], laidByText := true, laidKinds := [.data, .data, .data, .sentinel, .sentinel], laidTests := true, laidLooks := .later }
def QueueReceivesCardSaid : Prop := Claim7.holds Tryz.pinned (.plain (OpenSpec.ofChange queueReceivesSpec)) queueReceivesCard

/-- THE TIED CARD OF 'faaslaw28.QueueCounts'. -/
def queueCountsCard : Claim7 := { stood := { row := queueCountsRow, standIns := [], harness := (true, "cd62ef84d5b0a9af441127df6bf0115558ba6a693ac5ac06595c37bbda303685"), looks := true }, kinds := [], alts := [], laidByText := true, laidKinds := [.data, .data, .data, .sentinel, .sentinel], laidTests := true, laidLooks := .later }
def QueueCountsCardSaid : Prop := Claim7.holds Tryz.pinned (.plain (OpenSpec.ofChange queueCountsSpec)) queueCountsCard

/-- THE TIED CARD OF 'faaslaw28.QueueWorks'. -/
def queueWorksCard : Claim7 := { stood := { row := queueWorksRow, standIns := [], harness := (true, "cd62ef84d5b0a9af441127df6bf0115558ba6a693ac5ac06595c37bbda303685"), looks := true }, kinds := [], alts := [], laidByText := true, laidKinds := [.data, .data, .data, .sentinel, .sentinel], laidTests := true, laidLooks := .later }
def QueueWorksCardSaid : Prop := Claim7.holds Tryz.pinned (.plain (OpenSpec.ofChange queueWorksSpec)) queueWorksCard

/-- THE TIED CARD OF 'faaslaw28.QueueNil'. -/
def queueNilCard : Claim7 := { stood := { row := queueNilRow, standIns := [], harness := (true, "cd62ef84d5b0a9af441127df6bf0115558ba6a693ac5ac06595c37bbda303685"), looks := true }, kinds := [], alts := [], laidByText := true, laidKinds := [.data, .data, .data, .sentinel, .sentinel], laidTests := true, laidLooks := .later }
def QueueNilCardSaid : Prop := Claim7.holds Tryz.pinned (.plain (OpenSpec.ofChange queueNilSpec)) queueNilCard

/-- THE SECOND FORM's CARD OF 'faaslaw28.QueueKeeps'. -/
def queueKeepsUptoCard : Claim7 := { stood := { row := queueKeepsUptoRow, standIns := [], harness := (true, "cd62ef84d5b0a9af441127df6bf0115558ba6a693ac5ac06595c37bbda303685"), looks := true }, kinds := [], alts := [], laidByText := true, laidKinds := [.data, .data, .data, .sentinel, .sentinel], laidTests := true, laidLooks := .later }
def QueueKeepsUptoCardSaid : Prop := Claim7.holds Tryz.pinned (.plain (OpenSpec.upto queueKeepsSpec)) queueKeepsUptoCard

/-- THE SECOND FORM's CARD OF 'faaslaw28.QueueReceives'. -/
def queueReceivesUptoCard : Claim7 := { stood := { row := queueReceivesUptoRow, standIns := [], harness := (true, "cd62ef84d5b0a9af441127df6bf0115558ba6a693ac5ac06595c37bbda303685"), looks := true }, kinds := [], alts := [], laidByText := true, laidKinds := [.data, .data, .data, .sentinel, .sentinel], laidTests := true, laidLooks := .later }
def QueueReceivesUptoCardSaid : Prop := Claim7.holds Tryz.pinned (.plain (OpenSpec.upto queueReceivesSpec)) queueReceivesUptoCard

/-- THE SECOND FORM's CARD OF 'faaslaw28.QueueCounts'. -/
def queueCountsUptoCard : Claim7 := { stood := { row := queueCountsUptoRow, standIns := [], harness := (true, "cd62ef84d5b0a9af441127df6bf0115558ba6a693ac5ac06595c37bbda303685"), looks := true }, kinds := [], alts := [], laidByText := true, laidKinds := [.data, .data, .data, .sentinel, .sentinel], laidTests := true, laidLooks := .later }
def QueueCountsUptoCardSaid : Prop := Claim7.holds Tryz.pinned (.plain (OpenSpec.upto queueCountsSpec)) queueCountsUptoCard

/-- THE SECOND FORM's CARD OF 'faaslaw28.QueueWorks'. -/
def queueWorksUptoCard : Claim7 := { stood := { row := queueWorksUptoRow, standIns := [], harness := (true, "cd62ef84d5b0a9af441127df6bf0115558ba6a693ac5ac06595c37bbda303685"), looks := true }, kinds := [], alts := [], laidByText := true, laidKinds := [.data, .data, .data, .sentinel, .sentinel], laidTests := true, laidLooks := .later }
def QueueWorksUptoCardSaid : Prop := Claim7.holds Tryz.pinned (.plain (OpenSpec.upto queueWorksSpec)) queueWorksUptoCard

/-- THE SECOND FORM's CARD OF 'faaslaw28.QueueNil'. -/
def queueNilUptoCard : Claim7 := { stood := { row := queueNilUptoRow, standIns := [], harness := (true, "cd62ef84d5b0a9af441127df6bf0115558ba6a693ac5ac06595c37bbda303685"), looks := true }, kinds := [], alts := [], laidByText := true, laidKinds := [.data, .data, .data, .sentinel, .sentinel], laidTests := true, laidLooks := .later }
def QueueNilUptoCardSaid : Prop := Claim7.holds Tryz.pinned (.plain (OpenSpec.upto queueNilSpec)) queueNilUptoCard
end Rows
end Go.Proofs.YthbbedliepkakaaGreatDoor
