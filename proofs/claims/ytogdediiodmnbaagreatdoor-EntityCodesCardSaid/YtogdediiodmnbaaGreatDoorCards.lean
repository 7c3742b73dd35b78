/-
  DERIVED. GIVEN WITH THE SEED: THE CARDS: each row of YtogdediiodmnbaaGreatDoorRows.lean that lists a variable, with what it lists TIED to the program's text (the seventh form; the later family's looks); each row that meets fmt, with fmt's text TOLD by the authors' own Lean function (tested against real Go, not proved from fmt's source: count such statements apart). THE CARD IS WHAT COUNTS. Prove the row's statement (the work); the ties are given (YtogdediiodmnbaaGreatDoorTie.lean); close each card by the builder's one call (the guide's Derived/Test/ToyasCard.lean, 'card_holds'). Laid BY PROGRAM, IN A SANDBOX (cutbox-door.mjs). By AI agents, Wed Nov 11 2026. No macro, syntax, notation, axiom, sorry.
-/
import Derived.Test.YtogdediiodmnbaaGreatDoorRows
import GoSem.ClaimSeven
namespace Go.Proofs.YtogdediiodmnbaaGreatDoor
namespace Rows

/-- THE TIED CARD OF 'faaslaw48.EntityDoes'. -/
def entityDoesCard : Claim7 := { stood := { row := entityDoesRow, standIns := [], harness := (true, "81a728a97efc9f7862692c97d55761e0d3482a155eee8330bb17b2eed540094f"), looks := true }, kinds := [], alts := [], laidByText := true, laidKinds := [.data, .data, .data], laidTests := true, laidLooks := .later }
def EntityDoesCardSaid : Prop := Claim7.holds Tryz.pinned (.plain (OpenSpec.ofChange entityDoesSpec)) entityDoesCard

/-- THE TIED CARD OF 'faaslaw48.EntityKeeps'. -/
def entityKeepsCard : Claim7 := { stood := { row := entityKeepsRow, standIns := [], harness := (true, "81a728a97efc9f7862692c97d55761e0d3482a155eee8330bb17b2eed540094f"), looks := true }, kinds := [], alts := [], laidByText := true, laidKinds := [.data, .data, .data], laidTests := true, laidLooks := .later }
def EntityKeepsCardSaid : Prop := Claim7.holds Tryz.pinned (.plain (OpenSpec.ofChange entityKeepsSpec)) entityKeepsCard

/-- THE TIED CARD OF 'faaslaw48.EntityPlays'. -/
def entityPlaysCard : Claim7 := { stood := { row := entityPlaysRow, standIns := [], harness := (true, "81a728a97efc9f7862692c97d55761e0d3482a155eee8330bb17b2eed540094f"), looks := true }, kinds := [], alts := [], laidByText := true, laidKinds := [.data, .data, .data], laidTests := true, laidLooks := .later }
def EntityPlaysCardSaid : Prop := Claim7.holds Tryz.pinned (.plain (OpenSpec.ofChange entityPlaysSpec)) entityPlaysCard

/-- THE TIED CARD OF 'faaslaw48.EntitySerializes'. -/
def entitySerializesCard : Claim7 := { stood := { row := entitySerializesRow, standIns := [], harness := (true, "81a728a97efc9f7862692c97d55761e0d3482a155eee8330bb17b2eed540094f"), looks := true }, kinds := [], alts := [], laidByText := true, laidKinds := [.data, .data, .data], laidTests := true, laidLooks := .later }
def EntitySerializesCardSaid : Prop := Claim7.holds Tryz.pinned (.plain (OpenSpec.ofChange entitySerializesSpec)) entitySerializesCard

/-- THE TIED CARD OF 'faaslaw48.EntityNobody'. -/
def entityNobodyCard : Claim7 := { stood := { row := entityNobodyRow, standIns := [], harness := (true, "81a728a97efc9f7862692c97d55761e0d3482a155eee8330bb17b2eed540094f"), looks := true }, kinds := [], alts := [], laidByText := true, laidKinds := [.data, .data, .data], laidTests := true, laidLooks := .later }
def EntityNobodyCardSaid : Prop := Claim7.holds Tryz.pinned (.plain (OpenSpec.ofChange entityNobodySpec)) entityNobodyCard

/-- THE TIED CARD OF 'faaslaw48.EntityCodes'. -/
def entityCodesCard : Claim7 := { stood := { row := entityCodesRow, standIns := [], harness := (true, "81a728a97efc9f7862692c97d55761e0d3482a155eee8330bb17b2eed540094f"), looks := true }, kinds := [], alts := [], laidByText := true, laidKinds := [.data, .data, .data, .sentinel, .sentinel], laidTests := true, laidLooks := .later }
def EntityCodesCardSaid : Prop := Claim7.holds Tryz.pinned (.plain (OpenSpec.ofChange entityCodesSpec)) entityCodesCard

/-- THE TIED CARD OF 'faaslaw48.EntityBack'. -/
def entityBackCard : Claim7 := { stood := { row := entityBackRow, standIns := [], harness := (true, "81a728a97efc9f7862692c97d55761e0d3482a155eee8330bb17b2eed540094f"), looks := true }, kinds := [], alts := [], laidByText := true, laidKinds := [.data, .data, .data, .sentinel, .sentinel], laidTests := true, laidLooks := .later }
def EntityBackCardSaid : Prop := Claim7.holds Tryz.pinned (.plain (OpenSpec.ofChange entityBackSpec)) entityBackCard

/-- THE SECOND FORM's CARD OF 'faaslaw48.EntityDoes'. -/
def entityDoesUptoCard : Claim7 := { stood := { row := entityDoesUptoRow, standIns := [], harness := (true, "81a728a97efc9f7862692c97d55761e0d3482a155eee8330bb17b2eed540094f"), looks := true }, kinds := [], alts := [], laidByText := true, laidKinds := [.data, .data, .data], laidTests := true, laidLooks := .later }
def EntityDoesUptoCardSaid : Prop := Claim7.holds Tryz.pinned (.plain (OpenSpec.upto entityDoesSpec)) entityDoesUptoCard

/-- THE SECOND FORM's CARD OF 'faaslaw48.EntityKeeps'. -/
def entityKeepsUptoCard : Claim7 := { stood := { row := entityKeepsUptoRow, standIns := [], harness := (true, "81a728a97efc9f7862692c97d55761e0d3482a155eee8330bb17b2eed540094f"), looks := true }, kinds := [], alts := [], laidByText := true, laidKinds := [.data, .data, .data], laidTests := true, laidLooks := .later }
def EntityKeepsUptoCardSaid : Prop := Claim7.holds Tryz.pinned (.plain (OpenSpec.upto entityKeepsSpec)) entityKeepsUptoCard

/-- THE SECOND FORM's CARD OF 'faaslaw48.EntityPlays'. -/
def entityPlaysUptoCard : Claim7 := { stood := { row := entityPlaysUptoRow, standIns := [], harness := (true, "81a728a97efc9f7862692c97d55761e0d3482a155eee8330bb17b2eed540094f"), looks := true }, kinds := [], alts := [], laidByText := true, laidKinds := [.data, .data, .data], laidTests := true, laidLooks := .later }
def EntityPlaysUptoCardSaid : Prop := Claim7.holds Tryz.pinned (.plain (OpenSpec.upto entityPlaysSpec)) entityPlaysUptoCard

/-- THE SECOND FORM's CARD OF 'faaslaw48.EntitySerializes'. -/
def entitySerializesUptoCard : Claim7 := { stood := { row := entitySerializesUptoRow, standIns := [], harness := (true, "81a728a97efc9f7862692c97d55761e0d3482a155eee8330bb17b2eed540094f"), looks := true }, kinds := [], alts := [], laidByText := true, laidKinds := [.data, .data, .data], laidTests := true, laidLooks := .later }
def EntitySerializesUptoCardSaid : Prop := Claim7.holds Tryz.pinned (.plain (OpenSpec.upto entitySerializesSpec)) entitySerializesUptoCard

/-- THE SECOND FORM's CARD OF 'faaslaw48.EntityNobody'. -/
def entityNobodyUptoCard : Claim7 := { stood := { row := entityNobodyUptoRow, standIns := [], harness := (true, "81a728a97efc9f7862692c97d55761e0d3482a155eee8330bb17b2eed540094f"), looks := true }, kinds := [], alts := [], laidByText := true, laidKinds := [.data, .data, .data], laidTests := true, laidLooks := .later }
def EntityNobodyUptoCardSaid : Prop := Claim7.holds Tryz.pinned (.plain (OpenSpec.upto entityNobodySpec)) entityNobodyUptoCard

/-- THE SECOND FORM's CARD OF 'faaslaw48.EntityCodes'. -/
def entityCodesUptoCard : Claim7 := { stood := { row := entityCodesUptoRow, standIns := [], harness := (true, "81a728a97efc9f7862692c97d55761e0d3482a155eee8330bb17b2eed540094f"), looks := true }, kinds := [], alts := [], laidByText := true, laidKinds := [.data, .data, .data, .sentinel, .sentinel], laidTests := true, laidLooks := .later }
def EntityCodesUptoCardSaid : Prop := Claim7.holds Tryz.pinned (.plain (OpenSpec.upto entityCodesSpec)) entityCodesUptoCard

/-- THE SECOND FORM's CARD OF 'faaslaw48.EntityBack'. -/
def entityBackUptoCard : Claim7 := { stood := { row := entityBackUptoRow, standIns := [], harness := (true, "81a728a97efc9f7862692c97d55761e0d3482a155eee8330bb17b2eed540094f"), looks := true }, kinds := [], alts := [], laidByText := true, laidKinds := [.data, .data, .data, .sentinel, .sentinel], laidTests := true, laidLooks := .later }
def EntityBackUptoCardSaid : Prop := Claim7.holds Tryz.pinned (.plain (OpenSpec.upto entityBackSpec)) entityBackUptoCard
end Rows
end Go.Proofs.YtogdediiodmnbaaGreatDoor
