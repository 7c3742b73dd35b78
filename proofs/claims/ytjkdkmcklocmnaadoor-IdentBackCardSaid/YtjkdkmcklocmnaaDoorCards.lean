/-
  DERIVED. GIVEN WITH THE SEED: THE CARDS: each row of YtjkdkmcklocmnaaDoorRows.lean that lists a variable, with what it lists TIED to the program's text (the seventh form; the later family's looks); each row that meets fmt, with fmt's text TOLD by the authors' own Lean function (tested against real Go, not proved from fmt's source: count such statements apart). THE CARD IS WHAT COUNTS. Prove the row's statement (the work); the ties are given (YtjkdkmcklocmnaaDoorTie.lean); close each card by the builder's one call (the guide's Derived/Test/ToyasCard.lean, 'card_holds'). Laid BY PROGRAM, IN A SANDBOX (cutbox-door.mjs). By AI agents, Wed Nov 11 2026. No macro, syntax, notation, axiom, sorry.
-/
import Derived.Test.YtjkdkmcklocmnaaDoorRows
import GoSem.ClaimSeven
namespace Go.Proofs.YtjkdkmcklocmnaaDoor
namespace Rows

/-- THE TIED CARD OF 'faaslaw05.IdentLists'. -/
def identListsCard : Claim7 := { stood := { row := identListsRow, standIns := [], harness := (true, "9f67cc2151fdcb437d6746a26a35ed9153cfa7d16f5139ce8d74c5c99f9d7430"), looks := true }, kinds := [], alts := [], laidByText := true, laidKinds := [.data, .data, .data, .sentinel, .sentinel], laidTests := true, laidLooks := .later }
def IdentListsCardSaid : Prop := Claim7.holds Tryd.pinned (.plain (OpenSpec.ofChange identListsSpec)) identListsCard

/-- THE TIED CARD OF 'faaslaw05.IdentCovers'. -/
def identCoversCard : Claim7 := { stood := { row := identCoversRow, standIns := [], harness := (true, "9f67cc2151fdcb437d6746a26a35ed9153cfa7d16f5139ce8d74c5c99f9d7430"), looks := true }, kinds := [], alts := [], laidByText := true, laidKinds := [.data, .data, .data, .sentinel, .sentinel], laidTests := true, laidLooks := .later }
def IdentCoversCardSaid : Prop := Claim7.holds Tryd.pinned (.plain (OpenSpec.ofChange identCoversSpec)) identCoversCard

/-- THE TIED CARD OF 'faaslaw05.IdentBack'. -/
def identBackCard : Claim7 := { stood := { row := identBackRow, standIns := [], harness := (true, "9f67cc2151fdcb437d6746a26a35ed9153cfa7d16f5139ce8d74c5c99f9d7430"), looks := true }, kinds := [], alts := [], laidByText := true, laidKinds := [.data, .data, .data, .sentinel, .sentinel], laidTests := true, laidLooks := .later }
def IdentBackCardSaid : Prop := Claim7.holds Tryd.pinned (.plain (OpenSpec.ofChange identBackSpec)) identBackCard

/-- THE SECOND FORM's CARD OF 'faaslaw05.IdentLists'. -/
def identListsUptoCard : Claim7 := { stood := { row := identListsUptoRow, standIns := [], harness := (true, "9f67cc2151fdcb437d6746a26a35ed9153cfa7d16f5139ce8d74c5c99f9d7430"), looks := true }, kinds := [], alts := [], laidByText := true, laidKinds := [.data, .data, .data, .sentinel, .sentinel], laidTests := true, laidLooks := .later }
def IdentListsUptoCardSaid : Prop := Claim7.holds Tryd.pinned (.plain (OpenSpec.upto identListsSpec)) identListsUptoCard

/-- THE SECOND FORM's CARD OF 'faaslaw05.IdentCovers'. -/
def identCoversUptoCard : Claim7 := { stood := { row := identCoversUptoRow, standIns := [], harness := (true, "9f67cc2151fdcb437d6746a26a35ed9153cfa7d16f5139ce8d74c5c99f9d7430"), looks := true }, kinds := [], alts := [], laidByText := true, laidKinds := [.data, .data, .data, .sentinel, .sentinel], laidTests := true, laidLooks := .later }
def IdentCoversUptoCardSaid : Prop := Claim7.holds Tryd.pinned (.plain (OpenSpec.upto identCoversSpec)) identCoversUptoCard

/-- THE SECOND FORM's CARD OF 'faaslaw05.IdentBack'. -/
def identBackUptoCard : Claim7 := { stood := { row := identBackUptoRow, standIns := [], harness := (true, "9f67cc2151fdcb437d6746a26a35ed9153cfa7d16f5139ce8d74c5c99f9d7430"), looks := true }, kinds := [], alts := [], laidByText := true, laidKinds := [.data, .data, .data, .sentinel, .sentinel], laidTests := true, laidLooks := .later }
def IdentBackUptoCardSaid : Prop := Claim7.holds Tryd.pinned (.plain (OpenSpec.upto identBackSpec)) identBackUptoCard
end Rows
end Go.Proofs.YtjkdkmcklocmnaaDoor
