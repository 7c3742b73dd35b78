/-
  DERIVED. GIVEN WITH THE SEED: THE CARDS: each row of YtpmiamphppcfeaaGreatDoorRows.lean that lists a variable, with what it lists TIED to the program's text (the seventh form; the later family's looks); each row that meets fmt, with fmt's text TOLD by the authors' own Lean function (tested against real Go, not proved from fmt's source: count such statements apart). THE CARD IS WHAT COUNTS. Prove the row's statement (the work); the ties are given (YtpmiamphppcfeaaGreatDoorTie.lean); close each card by the builder's one call (the guide's Derived/Test/ToyasCard.lean, 'card_holds'). Laid BY PROGRAM, IN A SANDBOX (cutbox-door.mjs). By AI agents, Wed Nov 11 2026. No macro, syntax, notation, axiom, sorry.
-/
import Derived.Test.YtpmiamphppcfeaaGreatDoorRows
import GoSem.ClaimSeven
namespace Go.Proofs.YtpmiamphppcfeaaGreatDoor
namespace Rows

/-- THE TIED CARD OF 'faaslaw24.EventDecodes'. -/
def eventDecodesCard : Claim7 := { stood := { row := eventDecodesRow, standIns := [], harness := (true, "55b4a8126087f46eb894464683ce5526d904b26dcb78f8a0adb4a5b010075e86"), looks := true }, kinds := [], alts := [], laidByText := true, laidKinds := [.data, .data, .data, .sentinel, .sentinel], laidTests := true, laidLooks := .later }
def EventDecodesCardSaid : Prop := Claim7.holds Tryz.pinned (.plain (OpenSpec.ofChange eventDecodesSpec)) eventDecodesCard

/-- THE TIED CARD OF 'faaslaw24.EventCompares'. -/
def eventComparesCard : Claim7 := { stood := { row := eventComparesRow, standIns := [], harness := (true, "55b4a8126087f46eb894464683ce5526d904b26dcb78f8a0adb4a5b010075e86"), looks := true }, kinds := [], alts := [], laidByText := true, laidKinds := [.data, .data, .data, .sentinel, .sentinel], laidTests := true, laidLooks := .later }
def EventComparesCardSaid : Prop := Claim7.holds Tryz.pinned (.plain (OpenSpec.ofChange eventComparesSpec)) eventComparesCard

/-- THE TIED CARD OF 'faaslaw24.EventChildren'. -/
def eventChildrenCard : Claim7 := { stood := { row := eventChildrenRow, standIns := [], harness := (true, "55b4a8126087f46eb894464683ce5526d904b26dcb78f8a0adb4a5b010075e86"), looks := true }, kinds := [], alts := [], laidByText := true, laidKinds := [.data, .data, .data, .sentinel, .sentinel], laidTests := true, laidLooks := .later }
def EventChildrenCardSaid : Prop := Claim7.holds Tryz.pinned (.plain (OpenSpec.ofChange eventChildrenSpec)) eventChildrenCard

/-- THE TIED CARD OF 'faaslaw24.EventLineages'. -/
def eventLineagesCard : Claim7 := { stood := { row := eventLineagesRow, standIns := [], harness := (true, "55b4a8126087f46eb894464683ce5526d904b26dcb78f8a0adb4a5b010075e86"), looks := true }, kinds := [], alts := [], laidByText := true, laidKinds := [.data, .data, .data, .sentinel, .sentinel], laidTests := true, laidLooks := .later }
def EventLineagesCardSaid : Prop := Claim7.holds Tryz.pinned (.plain (OpenSpec.ofChange eventLineagesSpec)) eventLineagesCard

/-- THE TIED CARD OF 'faaslaw24.EventChecks'. -/
def eventChecksCard : Claim7 := { stood := { row := eventChecksRow, standIns := [], harness := (true, "55b4a8126087f46eb894464683ce5526d904b26dcb78f8a0adb4a5b010075e86"), looks := true }, kinds := [], alts := [], laidByText := true, laidKinds := [.data, .data, .data, .sentinel, .sentinel], laidTests := true, laidLooks := .later }
def EventChecksCardSaid : Prop := Claim7.holds Tryz.pinned (.plain (OpenSpec.ofChange eventChecksSpec)) eventChecksCard

/-- THE SECOND FORM's CARD OF 'faaslaw24.EventDecodes'. -/
def eventDecodesUptoCard : Claim7 := { stood := { row := eventDecodesUptoRow, standIns := [], harness := (true, "55b4a8126087f46eb894464683ce5526d904b26dcb78f8a0adb4a5b010075e86"), looks := true }, kinds := [], alts := [], laidByText := true, laidKinds := [.data, .data, .data, .sentinel, .sentinel], laidTests := true, laidLooks := .later }
def EventDecodesUptoCardSaid : Prop := Claim7.holds Tryz.pinned (.plain (OpenSpec.upto eventDecodesSpec)) eventDecodesUptoCard

/-- THE SECOND FORM's CARD OF 'faaslaw24.EventCompares'. -/
def eventComparesUptoCard : Claim7 := { stood := { row := eventComparesUptoRow, standIns := [], harness := (true, "55b4a8126087f46eb894464683ce5526d904b26dcb78f8a0adb4a5b010075e86"), looks := true }, kinds := [], alts := [], laidByText := true, laidKinds := [.data, .data, .data, .sentinel, .sentinel], laidTests := true, laidLooks := .later }
def EventComparesUptoCardSaid : Prop := Claim7.holds Tryz.pinned (.plain (OpenSpec.upto eventComparesSpec)) eventComparesUptoCard

/-- THE SECOND FORM's CARD OF 'faaslaw24.EventChildren'. -/
def eventChildrenUptoCard : Claim7 := { stood := { row := eventChildrenUptoRow, standIns := [], harness := (true, "55b4a8126087f46eb894464683ce5526d904b26dcb78f8a0adb4a5b010075e86"), looks := true }, kinds := [], alts := [], laidByText := true, laidKinds := [.data, .data, .data, .sentinel, .sentinel], laidTests := true, laidLooks := .later }
def EventChildrenUptoCardSaid : Prop := Claim7.holds Tryz.pinned (.plain (OpenSpec.upto eventChildrenSpec)) eventChildrenUptoCard

/-- THE SECOND FORM's CARD OF 'faaslaw24.EventLineages'. -/
def eventLineagesUptoCard : Claim7 := { stood := { row := eventLineagesUptoRow, standIns := [], harness := (true, "55b4a8126087f46eb894464683ce5526d904b26dcb78f8a0adb4a5b010075e86"), looks := true }, kinds := [], alts := [], laidByText := true, laidKinds := [.data, .data, .data, .sentinel, .sentinel], laidTests := true, laidLooks := .later }
def EventLineagesUptoCardSaid : Prop := Claim7.holds Tryz.pinned (.plain (OpenSpec.upto eventLineagesSpec)) eventLineagesUptoCard

/-- THE SECOND FORM's CARD OF 'faaslaw24.EventChecks'. -/
def eventChecksUptoCard : Claim7 := { stood := { row := eventChecksUptoRow, standIns := [], harness := (true, "55b4a8126087f46eb894464683ce5526d904b26dcb78f8a0adb4a5b010075e86"), looks := true }, kinds := [], alts := [], laidByText := true, laidKinds := [.data, .data, .data, .sentinel, .sentinel], laidTests := true, laidLooks := .later }
def EventChecksUptoCardSaid : Prop := Claim7.holds Tryz.pinned (.plain (OpenSpec.upto eventChecksSpec)) eventChecksUptoCard
end Rows
end Go.Proofs.YtpmiamphppcfeaaGreatDoor
