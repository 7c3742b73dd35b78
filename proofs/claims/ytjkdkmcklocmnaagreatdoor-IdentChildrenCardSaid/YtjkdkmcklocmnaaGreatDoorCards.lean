/-
  DERIVED. GIVEN WITH THE SEED: THE CARDS: each row of YtjkdkmcklocmnaaGreatDoorRows.lean that lists a variable, with what it lists TIED to the program's text (the seventh form; the later family's looks); each row that meets fmt, with fmt's text TOLD by the authors' own Lean function (tested against real Go, not proved from fmt's source: count such statements apart). THE CARD IS WHAT COUNTS. Prove the row's statement (the work); the ties are given (YtjkdkmcklocmnaaGreatDoorTie.lean); close each card by the builder's one call (the guide's Derived/Test/ToyasCard.lean, 'card_holds'). Laid BY PROGRAM, IN A SANDBOX (cutbox-door.mjs). By AI agents, Wed Nov 11 2026. No macro, syntax, notation, axiom, sorry.
-/
import Derived.Test.YtjkdkmcklocmnaaGreatDoorRows
import GoSem.ClaimSeven
namespace Go.Proofs.YtjkdkmcklocmnaaGreatDoor
namespace Rows

/-- THE TIED CARD OF 'faaslaw05.IdentNames'. -/
def identNamesCard : Claim7 := { stood := { row := identNamesRow, standIns := [], harness := (true, "83972dc6a7ef6e1d28f3365eb5cca68ff59433785e63f623fea83bab2b0d70a5"), looks := true }, kinds := [], alts := [], laidByText := true, laidKinds := [.data, .data, .data, .sentinel, .sentinel], laidTests := true, laidLooks := .later }
def IdentNamesCardSaid : Prop := Claim7.holds Tryz.pinned (.plain (OpenSpec.ofChange identNamesSpec)) identNamesCard

/-- THE TIED CARD OF 'faaslaw05.IdentRefs'. -/
def identRefsCard : Claim7 := { stood := { row := identRefsRow, standIns := [], harness := (true, "83972dc6a7ef6e1d28f3365eb5cca68ff59433785e63f623fea83bab2b0d70a5"), looks := true }, kinds := [], alts := [], laidByText := true, laidKinds := [.data, .data, .data, .sentinel, .sentinel], laidTests := true, laidLooks := .later }
def IdentRefsCardSaid : Prop := Claim7.holds Tryz.pinned (.plain (OpenSpec.ofChange identRefsSpec)) identRefsCard

/-- THE TIED CARD OF 'faaslaw05.IdentChildren'. -/
def identChildrenCard : Claim7 := { stood := { row := identChildrenRow, standIns := [], harness := (true, "83972dc6a7ef6e1d28f3365eb5cca68ff59433785e63f623fea83bab2b0d70a5"), looks := true }, kinds := [], alts := [], laidByText := true, laidKinds := [.data, .data, .data, .sentinel, .sentinel], laidTests := true, laidLooks := .later }
def IdentChildrenCardSaid : Prop := Claim7.holds Tryz.pinned (.plain (OpenSpec.ofChange identChildrenSpec)) identChildrenCard

/-- THE TIED CARD OF 'faaslaw05.IdentMatches'. -/
def identMatchesCard : Claim7 := { stood := { row := identMatchesRow, standIns := [], harness := (true, "83972dc6a7ef6e1d28f3365eb5cca68ff59433785e63f623fea83bab2b0d70a5"), looks := true }, kinds := [], alts := [], laidByText := true, laidKinds := [.data, .data, .data, .sentinel, .sentinel], laidTests := true, laidLooks := .later }
def IdentMatchesCardSaid : Prop := Claim7.holds Tryz.pinned (.plain (OpenSpec.ofChange identMatchesSpec)) identMatchesCard

/-- THE SECOND FORM's CARD OF 'faaslaw05.IdentNames'. -/
def identNamesUptoCard : Claim7 := { stood := { row := identNamesUptoRow, standIns := [], harness := (true, "83972dc6a7ef6e1d28f3365eb5cca68ff59433785e63f623fea83bab2b0d70a5"), looks := true }, kinds := [], alts := [], laidByText := true, laidKinds := [.data, .data, .data, .sentinel, .sentinel], laidTests := true, laidLooks := .later }
def IdentNamesUptoCardSaid : Prop := Claim7.holds Tryz.pinned (.plain (OpenSpec.upto identNamesSpec)) identNamesUptoCard

/-- THE SECOND FORM's CARD OF 'faaslaw05.IdentRefs'. -/
def identRefsUptoCard : Claim7 := { stood := { row := identRefsUptoRow, standIns := [], harness := (true, "83972dc6a7ef6e1d28f3365eb5cca68ff59433785e63f623fea83bab2b0d70a5"), looks := true }, kinds := [], alts := [], laidByText := true, laidKinds := [.data, .data, .data, .sentinel, .sentinel], laidTests := true, laidLooks := .later }
def IdentRefsUptoCardSaid : Prop := Claim7.holds Tryz.pinned (.plain (OpenSpec.upto identRefsSpec)) identRefsUptoCard

/-- THE SECOND FORM's CARD OF 'faaslaw05.IdentChildren'. -/
def identChildrenUptoCard : Claim7 := { stood := { row := identChildrenUptoRow, standIns := [], harness := (true, "83972dc6a7ef6e1d28f3365eb5cca68ff59433785e63f623fea83bab2b0d70a5"), looks := true }, kinds := [], alts := [], laidByText := true, laidKinds := [.data, .data, .data, .sentinel, .sentinel], laidTests := true, laidLooks := .later }
def IdentChildrenUptoCardSaid : Prop := Claim7.holds Tryz.pinned (.plain (OpenSpec.upto identChildrenSpec)) identChildrenUptoCard

/-- THE SECOND FORM's CARD OF 'faaslaw05.IdentMatches'. -/
def identMatchesUptoCard : Claim7 := { stood := { row := identMatchesUptoRow, standIns := [], harness := (true, "83972dc6a7ef6e1d28f3365eb5cca68ff59433785e63f623fea83bab2b0d70a5"), looks := true }, kinds := [], alts := [], laidByText := true, laidKinds := [.data, .data, .data, .sentinel, .sentinel], laidTests := true, laidLooks := .later }
def IdentMatchesUptoCardSaid : Prop := Claim7.holds Tryz.pinned (.plain (OpenSpec.upto identMatchesSpec)) identMatchesUptoCard
end Rows
end Go.Proofs.YtjkdkmcklocmnaaGreatDoor
