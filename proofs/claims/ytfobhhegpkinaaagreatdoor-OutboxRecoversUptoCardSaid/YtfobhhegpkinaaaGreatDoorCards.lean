/-
  DERIVED. GIVEN WITH THE SEED: THE CARDS: each row of YtfobhhegpkinaaaGreatDoorRows.lean that lists a variable, with what it lists TIED to the program's text (the seventh form; the later family's looks); each row that meets fmt, with fmt's text TOLD by the authors' own Lean function (tested against real Go, not proved from fmt's source: count such statements apart). THE CARD IS WHAT COUNTS. Prove the row's statement (the work); the ties are given (YtfobhhegpkinaaaGreatDoorTie.lean); close each card by the builder's one call (the guide's Derived/Test/ToyasCard.lean, 'card_holds'). Laid BY PROGRAM, IN A SANDBOX (cutbox-door.mjs). By AI agents, Wed Nov 11 2026. No macro, syntax, notation, axiom, sorry.
-/
import Derived.Test.YtfobhhegpkinaaaGreatDoorRows
import GoSem.ClaimSeven
namespace Go.Proofs.YtfobhhegpkinaaaGreatDoor
namespace Rows

/-- THE TIED CARD OF 'faaslaw47.OutboxDoes'. -/
def outboxDoesCard : Claim7 := { stood := { row := outboxDoesRow, standIns := [], harness := (true, "1cb839bb22d999ddb2f8cbcbd9eba807b5f4a402049b76bb6edaac0746742e17"), looks := true }, kinds := [], alts := [], laidByText := true, laidKinds := [.data, .data, .data, .sentinel, .sentinel], laidTests := true, laidLooks := .later }
def OutboxDoesCardSaid : Prop := Claim7.holds Tryz.pinned (.plain (OpenSpec.ofChange outboxDoesSpec)) outboxDoesCard

/-- THE TIED CARD OF 'faaslaw47.OutboxTexts'. -/
def outboxTextsCard : Claim7 := { stood := { row := outboxTextsRow, standIns := [], harness := (true, "1cb839bb22d999ddb2f8cbcbd9eba807b5f4a402049b76bb6edaac0746742e17"), looks := true }, kinds := [], alts := [], laidByText := true, laidKinds := [.data, .data, .data, .sentinel, .sentinel], laidTests := true, laidLooks := .later }
def OutboxTextsCardSaid : Prop := Claim7.holds Tryz.pinned (.plain (OpenSpec.ofChange outboxTextsSpec)) outboxTextsCard

/-- THE TIED CARD OF 'faaslaw47.OutboxNone'. -/
def outboxNoneCard : Claim7 := { stood := { row := outboxNoneRow, standIns := [], harness := (true, "1cb839bb22d999ddb2f8cbcbd9eba807b5f4a402049b76bb6edaac0746742e17"), looks := true }, kinds := [], alts := [], laidByText := true, laidKinds := [.data, .data, .data, .sentinel, .sentinel], laidTests := true, laidLooks := .later }
def OutboxNoneCardSaid : Prop := Claim7.holds Tryz.pinned (.plain (OpenSpec.ofChange outboxNoneSpec)) outboxNoneCard

/-- THE TIED CARD OF 'faaslaw47.OutboxOnce'. -/
def outboxOnceCard : Claim7 := { stood := { row := outboxOnceRow, standIns := [], harness := (true, "1cb839bb22d999ddb2f8cbcbd9eba807b5f4a402049b76bb6edaac0746742e17"), looks := true }, kinds := [], alts := [], laidByText := true, laidKinds := [.data, .data, .data, .sentinel, .sentinel], laidTests := true, laidLooks := .later }
def OutboxOnceCardSaid : Prop := Claim7.holds Tryz.pinned (.plain (OpenSpec.ofChange outboxOnceSpec)) outboxOnceCard

/-- THE TIED CARD OF 'faaslaw47.OutboxRecovers'. -/
def outboxRecoversCard : Claim7 := { stood := { row := outboxRecoversRow, standIns := [], harness := (true, "1cb839bb22d999ddb2f8cbcbd9eba807b5f4a402049b76bb6edaac0746742e17"), looks := true }, kinds := [], alts := [], laidByText := true, laidKinds := [.data, .data, .data, .sentinel, .sentinel], laidTests := true, laidLooks := .later }
def OutboxRecoversCardSaid : Prop := Claim7.holds Tryz.pinned (.plain (OpenSpec.ofChange outboxRecoversSpec)) outboxRecoversCard

/-- THE SECOND FORM's CARD OF 'faaslaw47.OutboxDoes'. -/
def outboxDoesUptoCard : Claim7 := { stood := { row := outboxDoesUptoRow, standIns := [], harness := (true, "1cb839bb22d999ddb2f8cbcbd9eba807b5f4a402049b76bb6edaac0746742e17"), looks := true }, kinds := [], alts := [], laidByText := true, laidKinds := [.data, .data, .data, .sentinel, .sentinel], laidTests := true, laidLooks := .later }
def OutboxDoesUptoCardSaid : Prop := Claim7.holds Tryz.pinned (.plain (OpenSpec.upto outboxDoesSpec)) outboxDoesUptoCard

/-- THE SECOND FORM's CARD OF 'faaslaw47.OutboxTexts'. -/
def outboxTextsUptoCard : Claim7 := { stood := { row := outboxTextsUptoRow, standIns := [], harness := (true, "1cb839bb22d999ddb2f8cbcbd9eba807b5f4a402049b76bb6edaac0746742e17"), looks := true }, kinds := [], alts := [], laidByText := true, laidKinds := [.data, .data, .data, .sentinel, .sentinel], laidTests := true, laidLooks := .later }
def OutboxTextsUptoCardSaid : Prop := Claim7.holds Tryz.pinned (.plain (OpenSpec.upto outboxTextsSpec)) outboxTextsUptoCard

/-- THE SECOND FORM's CARD OF 'faaslaw47.OutboxNone'. -/
def outboxNoneUptoCard : Claim7 := { stood := { row := outboxNoneUptoRow, standIns := [], harness := (true, "1cb839bb22d999ddb2f8cbcbd9eba807b5f4a402049b76bb6edaac0746742e17"), looks := true }, kinds := [], alts := [], laidByText := true, laidKinds := [.data, .data, .data, .sentinel, .sentinel], laidTests := true, laidLooks := .later }
def OutboxNoneUptoCardSaid : Prop := Claim7.holds Tryz.pinned (.plain (OpenSpec.upto outboxNoneSpec)) outboxNoneUptoCard

/-- THE SECOND FORM's CARD OF 'faaslaw47.OutboxOnce'. -/
def outboxOnceUptoCard : Claim7 := { stood := { row := outboxOnceUptoRow, standIns := [], harness := (true, "1cb839bb22d999ddb2f8cbcbd9eba807b5f4a402049b76bb6edaac0746742e17"), looks := true }, kinds := [], alts := [], laidByText := true, laidKinds := [.data, .data, .data, .sentinel, .sentinel], laidTests := true, laidLooks := .later }
def OutboxOnceUptoCardSaid : Prop := Claim7.holds Tryz.pinned (.plain (OpenSpec.upto outboxOnceSpec)) outboxOnceUptoCard

/-- THE SECOND FORM's CARD OF 'faaslaw47.OutboxRecovers'. -/
def outboxRecoversUptoCard : Claim7 := { stood := { row := outboxRecoversUptoRow, standIns := [], harness := (true, "1cb839bb22d999ddb2f8cbcbd9eba807b5f4a402049b76bb6edaac0746742e17"), looks := true }, kinds := [], alts := [], laidByText := true, laidKinds := [.data, .data, .data, .sentinel, .sentinel], laidTests := true, laidLooks := .later }
def OutboxRecoversUptoCardSaid : Prop := Claim7.holds Tryz.pinned (.plain (OpenSpec.upto outboxRecoversSpec)) outboxRecoversUptoCard
end Rows
end Go.Proofs.YtfobhhegpkinaaaGreatDoor
