/-
  DERIVED. GIVEN WITH THE SEED: THE CARDS: each row of YtmjlemhondjfhaaGreatDoorRows.lean that lists a variable, with what it lists TIED to the program's text (the seventh form; the later family's looks); each row that meets fmt, with fmt's text TOLD by the authors' own Lean function (tested against real Go, not proved from fmt's source: count such statements apart). THE CARD IS WHAT COUNTS. Prove the row's statement (the work); the ties are given (YtmjlemhondjfhaaGreatDoorTie.lean); close each card by the builder's one call (the guide's Derived/Test/ToyasCard.lean, 'card_holds'). Laid BY PROGRAM, IN A SANDBOX (cutbox-door.mjs). By AI agents, Wed Nov 11 2026. No macro, syntax, notation, axiom, sorry.
-/
import Derived.Test.YtmjlemhondjfhaaGreatDoorRows
import GoSem.ClaimSeven
namespace Go.Proofs.YtmjlemhondjfhaaGreatDoor
namespace Rows

/-- THE TIED CARD OF 'faaslaw35.HostAllows'. -/
def hostAllowsCard : Claim7 := { stood := { row := hostAllowsRow, standIns := [], harness := (true, "fe21aa05da64865c11a0ead4693c3ebd6c819341246f1e42a3367141970161a3"), looks := true }, kinds := [], alts := [], laidByText := true, laidKinds := [.data, .data, .data, .data, .sentinel, .sentinel, .pinned], laidTests := true, laidLooks := .later }
def HostAllowsCardSaid : Prop := Claim7.holds Tryz.pinned (.plain (OpenSpec.ofChange hostAllowsSpec)) hostAllowsCard

/-- THE TIED CARD OF 'faaslaw35.HostConfines'. -/
def hostConfinesCard : Claim7 := { stood := { row := hostConfinesRow, standIns := [], harness := (true, "fe21aa05da64865c11a0ead4693c3ebd6c819341246f1e42a3367141970161a3"), looks := true }, kinds := [], alts := [], laidByText := true, laidKinds := [.data, .data, .data, .data, .sentinel, .sentinel, .pinned], laidTests := true, laidLooks := .later }
def HostConfinesCardSaid : Prop := Claim7.holds Tryz.pinned (.plain (OpenSpec.ofChange hostConfinesSpec)) hostConfinesCard

/-- THE TIED CARD OF 'faaslaw35.HostReadsOwn'. -/
def hostReadsOwnCard : Claim7 := { stood := { row := hostReadsOwnRow, standIns := [], harness := (true, "fe21aa05da64865c11a0ead4693c3ebd6c819341246f1e42a3367141970161a3"), looks := true }, kinds := [], alts := [], laidByText := true, laidKinds := [.data, .data, .data, .data, .sentinel, .sentinel, .pinned], laidTests := true, laidLooks := .later }
def HostReadsOwnCardSaid : Prop := Claim7.holds Tryz.pinned (.plain (OpenSpec.ofChange hostReadsOwnSpec)) hostReadsOwnCard

/-- THE TIED CARD OF 'faaslaw35.HostDoes'. -/
def hostDoesCard : Claim7 := { stood := { row := hostDoesRow, standIns := [], harness := (true, "fe21aa05da64865c11a0ead4693c3ebd6c819341246f1e42a3367141970161a3"), looks := true }, kinds := [], alts := [], laidByText := true, laidKinds := [.data, .data, .data, .data, .sentinel, .sentinel, .pinned], laidTests := true, laidLooks := .later }
def HostDoesCardSaid : Prop := Claim7.holds Tryz.pinned (.plain (OpenSpec.ofChange hostDoesSpec)) hostDoesCard

/-- THE TIED CARD OF 'faaslaw35.HostNone'. -/
def hostNoneCard : Claim7 := { stood := { row := hostNoneRow, standIns := [], harness := (true, "fe21aa05da64865c11a0ead4693c3ebd6c819341246f1e42a3367141970161a3"), looks := true }, kinds := [], alts := [], laidByText := true, laidKinds := [.data, .data, .data, .data, .sentinel, .sentinel, .pinned], laidTests := true, laidLooks := .later }
def HostNoneCardSaid : Prop := Claim7.holds Tryz.pinned (.plain (OpenSpec.ofChange hostNoneSpec)) hostNoneCard

/-- THE SECOND FORM's CARD OF 'faaslaw35.HostAllows'. -/
def hostAllowsUptoCard : Claim7 := { stood := { row := hostAllowsUptoRow, standIns := [], harness := (true, "fe21aa05da64865c11a0ead4693c3ebd6c819341246f1e42a3367141970161a3"), looks := true }, kinds := [], alts := [], laidByText := true, laidKinds := [.data, .data, .data, .data, .sentinel, .sentinel, .pinned], laidTests := true, laidLooks := .later }
def HostAllowsUptoCardSaid : Prop := Claim7.holds Tryz.pinned (.plain (OpenSpec.upto hostAllowsSpec)) hostAllowsUptoCard

/-- THE SECOND FORM's CARD OF 'faaslaw35.HostConfines'. -/
def hostConfinesUptoCard : Claim7 := { stood := { row := hostConfinesUptoRow, standIns := [], harness := (true, "fe21aa05da64865c11a0ead4693c3ebd6c819341246f1e42a3367141970161a3"), looks := true }, kinds := [], alts := [], laidByText := true, laidKinds := [.data, .data, .data, .data, .sentinel, .sentinel, .pinned], laidTests := true, laidLooks := .later }
def HostConfinesUptoCardSaid : Prop := Claim7.holds Tryz.pinned (.plain (OpenSpec.upto hostConfinesSpec)) hostConfinesUptoCard

/-- THE SECOND FORM's CARD OF 'faaslaw35.HostReadsOwn'. -/
def hostReadsOwnUptoCard : Claim7 := { stood := { row := hostReadsOwnUptoRow, standIns := [], harness := (true, "fe21aa05da64865c11a0ead4693c3ebd6c819341246f1e42a3367141970161a3"), looks := true }, kinds := [], alts := [], laidByText := true, laidKinds := [.data, .data, .data, .data, .sentinel, .sentinel, .pinned], laidTests := true, laidLooks := .later }
def HostReadsOwnUptoCardSaid : Prop := Claim7.holds Tryz.pinned (.plain (OpenSpec.upto hostReadsOwnSpec)) hostReadsOwnUptoCard

/-- THE SECOND FORM's CARD OF 'faaslaw35.HostDoes'. -/
def hostDoesUptoCard : Claim7 := { stood := { row := hostDoesUptoRow, standIns := [], harness := (true, "fe21aa05da64865c11a0ead4693c3ebd6c819341246f1e42a3367141970161a3"), looks := true }, kinds := [], alts := [], laidByText := true, laidKinds := [.data, .data, .data, .data, .sentinel, .sentinel, .pinned], laidTests := true, laidLooks := .later }
def HostDoesUptoCardSaid : Prop := Claim7.holds Tryz.pinned (.plain (OpenSpec.upto hostDoesSpec)) hostDoesUptoCard

/-- THE SECOND FORM's CARD OF 'faaslaw35.HostNone'. -/
def hostNoneUptoCard : Claim7 := { stood := { row := hostNoneUptoRow, standIns := [], harness := (true, "fe21aa05da64865c11a0ead4693c3ebd6c819341246f1e42a3367141970161a3"), looks := true }, kinds := [], alts := [], laidByText := true, laidKinds := [.data, .data, .data, .data, .sentinel, .sentinel, .pinned], laidTests := true, laidLooks := .later }
def HostNoneUptoCardSaid : Prop := Claim7.holds Tryz.pinned (.plain (OpenSpec.upto hostNoneSpec)) hostNoneUptoCard
end Rows
end Go.Proofs.YtmjlemhondjfhaaGreatDoor
