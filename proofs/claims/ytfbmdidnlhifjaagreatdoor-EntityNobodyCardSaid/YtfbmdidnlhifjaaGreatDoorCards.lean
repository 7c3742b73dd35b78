/-
  DERIVED. GIVEN WITH THE SEED: THE CARDS: each row of YtfbmdidnlhifjaaGreatDoorRows.lean that lists a variable, with what it lists TIED to the program's text (the seventh form; the later family's looks); each row that meets fmt, with fmt's text TOLD by the authors' own Lean function (tested against real Go, not proved from fmt's source: count such statements apart). THE CARD IS WHAT COUNTS. Prove the row's statement (the work); the ties are given (YtfbmdidnlhifjaaGreatDoorTie.lean); close each card by the builder's one call (the guide's Derived/Test/ToyasCard.lean, 'card_holds'). Laid BY PROGRAM, IN A SANDBOX (cutbox-door.mjs). By AI agents, Wed Nov 11 2026. No macro, syntax, notation, axiom, sorry.
-/
import Derived.Test.YtfbmdidnlhifjaaGreatDoorRows
import GoSem.ClaimSeven
namespace Go.Proofs.YtfbmdidnlhifjaaGreatDoor
namespace Rows

/-- THE TIED CARD OF 'faaslaw48.EntityDoes'. -/
def entityDoesCard : Claim7 := { stood := { row := entityDoesRow, standIns := [], harness := (true, "a7fa9a3f7b1cc7dd8941040ab104331e273c3168b57aef2cd09c774dc3252186"), looks := false }, kinds := [], alts := [], laidByText := true, laidKinds := [.data, .data, .data], laidTests := true, laidLooks := .later }
def EntityDoesCardSaid : Prop := Claim7.holds Tryz.pinned (.plain (OpenSpec.ofChange entityDoesSpec)) entityDoesCard

/-- THE TIED CARD OF 'faaslaw48.EntityKeeps'. -/
def entityKeepsCard : Claim7 := { stood := { row := entityKeepsRow, standIns := [], harness := (true, "a7fa9a3f7b1cc7dd8941040ab104331e273c3168b57aef2cd09c774dc3252186"), looks := false }, kinds := [], alts := [], laidByText := true, laidKinds := [.data, .data, .data], laidTests := true, laidLooks := .later }
def EntityKeepsCardSaid : Prop := Claim7.holds Tryz.pinned (.plain (OpenSpec.ofChange entityKeepsSpec)) entityKeepsCard

/-- THE TIED CARD OF 'faaslaw48.EntityPlays'. -/
def entityPlaysCard : Claim7 := { stood := { row := entityPlaysRow, standIns := [], harness := (true, "a7fa9a3f7b1cc7dd8941040ab104331e273c3168b57aef2cd09c774dc3252186"), looks := false }, kinds := [], alts := [], laidByText := true, laidKinds := [.data, .data, .data], laidTests := true, laidLooks := .later }
def EntityPlaysCardSaid : Prop := Claim7.holds Tryz.pinned (.plain (OpenSpec.ofChange entityPlaysSpec)) entityPlaysCard

/-- THE TIED CARD OF 'faaslaw48.EntitySerializes'. -/
def entitySerializesCard : Claim7 := { stood := { row := entitySerializesRow, standIns := [], harness := (true, "a7fa9a3f7b1cc7dd8941040ab104331e273c3168b57aef2cd09c774dc3252186"), looks := false }, kinds := [], alts := [], laidByText := true, laidKinds := [.data, .data, .data], laidTests := true, laidLooks := .later }
def EntitySerializesCardSaid : Prop := Claim7.holds Tryz.pinned (.plain (OpenSpec.ofChange entitySerializesSpec)) entitySerializesCard

/-- THE TIED CARD OF 'faaslaw48.EntityNobody'. -/
def entityNobodyCard : Claim7 := { stood := { row := entityNobodyRow, standIns := [], harness := (true, "a7fa9a3f7b1cc7dd8941040ab104331e273c3168b57aef2cd09c774dc3252186"), looks := false }, kinds := [], alts := [], laidByText := true, laidKinds := [.data, .data, .data], laidTests := true, laidLooks := .later }
def EntityNobodyCardSaid : Prop := Claim7.holds Tryz.pinned (.plain (OpenSpec.ofChange entityNobodySpec)) entityNobodyCard

/-- THE SECOND FORM's CARD OF 'faaslaw48.EntityDoes'. -/
def entityDoesUptoCard : Claim7 := { stood := { row := entityDoesUptoRow, standIns := [], harness := (true, "a7fa9a3f7b1cc7dd8941040ab104331e273c3168b57aef2cd09c774dc3252186"), looks := false }, kinds := [], alts := [], laidByText := true, laidKinds := [.data, .data, .data], laidTests := true, laidLooks := .later }
def EntityDoesUptoCardSaid : Prop := Claim7.holds Tryz.pinned (.plain (OpenSpec.upto entityDoesSpec)) entityDoesUptoCard

/-- THE SECOND FORM's CARD OF 'faaslaw48.EntityKeeps'. -/
def entityKeepsUptoCard : Claim7 := { stood := { row := entityKeepsUptoRow, standIns := [], harness := (true, "a7fa9a3f7b1cc7dd8941040ab104331e273c3168b57aef2cd09c774dc3252186"), looks := false }, kinds := [], alts := [], laidByText := true, laidKinds := [.data, .data, .data], laidTests := true, laidLooks := .later }
def EntityKeepsUptoCardSaid : Prop := Claim7.holds Tryz.pinned (.plain (OpenSpec.upto entityKeepsSpec)) entityKeepsUptoCard

/-- THE SECOND FORM's CARD OF 'faaslaw48.EntityPlays'. -/
def entityPlaysUptoCard : Claim7 := { stood := { row := entityPlaysUptoRow, standIns := [], harness := (true, "a7fa9a3f7b1cc7dd8941040ab104331e273c3168b57aef2cd09c774dc3252186"), looks := false }, kinds := [], alts := [], laidByText := true, laidKinds := [.data, .data, .data], laidTests := true, laidLooks := .later }
def EntityPlaysUptoCardSaid : Prop := Claim7.holds Tryz.pinned (.plain (OpenSpec.upto entityPlaysSpec)) entityPlaysUptoCard

/-- THE SECOND FORM's CARD OF 'faaslaw48.EntitySerializes'. -/
def entitySerializesUptoCard : Claim7 := { stood := { row := entitySerializesUptoRow, standIns := [], harness := (true, "a7fa9a3f7b1cc7dd8941040ab104331e273c3168b57aef2cd09c774dc3252186"), looks := false }, kinds := [], alts := [], laidByText := true, laidKinds := [.data, .data, .data], laidTests := true, laidLooks := .later }
def EntitySerializesUptoCardSaid : Prop := Claim7.holds Tryz.pinned (.plain (OpenSpec.upto entitySerializesSpec)) entitySerializesUptoCard

/-- THE SECOND FORM's CARD OF 'faaslaw48.EntityNobody'. -/
def entityNobodyUptoCard : Claim7 := { stood := { row := entityNobodyUptoRow, standIns := [], harness := (true, "a7fa9a3f7b1cc7dd8941040ab104331e273c3168b57aef2cd09c774dc3252186"), looks := false }, kinds := [], alts := [], laidByText := true, laidKinds := [.data, .data, .data], laidTests := true, laidLooks := .later }
def EntityNobodyUptoCardSaid : Prop := Claim7.holds Tryz.pinned (.plain (OpenSpec.upto entityNobodySpec)) entityNobodyUptoCard
end Rows
end Go.Proofs.YtfbmdidnlhifjaaGreatDoor
