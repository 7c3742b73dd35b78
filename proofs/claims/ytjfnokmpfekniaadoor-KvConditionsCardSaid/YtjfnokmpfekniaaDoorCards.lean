/-
  DERIVED. GIVEN WITH THE SEED: THE CARDS: each row of YtjfnokmpfekniaaDoorRows.lean that lists a variable, with what it lists TIED to the program's text (the seventh form; the later family's looks); each row that meets fmt, with fmt's text TOLD by the authors' own Lean function (tested against real Go, not proved from fmt's source: count such statements apart). THE CARD IS WHAT COUNTS. Prove the row's statement (the work); the ties are given (YtjfnokmpfekniaaDoorTie.lean); close each card by the builder's one call (the guide's Derived/Test/ToyasCard.lean, 'card_holds'). Laid BY PROGRAM, IN A SANDBOX (cutbox-door.mjs). By AI agents, Wed Nov 11 2026. No macro, syntax, notation, axiom, sorry.
-/
import Derived.Test.YtjfnokmpfekniaaDoorRows
import GoSem.ClaimSeven
namespace Go.Proofs.YtjfnokmpfekniaaDoor
namespace Rows

/-- THE TIED CARD OF 'faaslaw46.KvConditions'. -/
def kvConditionsCard : Claim7 := { stood := { row := kvConditionsRow, standIns := [], harness := (true, "7205384315468486f0b2cbe00e85ea3629154ad47d0286ff2a3717942d53887c"), looks := false }, kinds := [], alts := [], laidByText := true, laidKinds := [.data, .data, .data], laidTests := true, laidLooks := .later }
def KvConditionsCardSaid : Prop := Claim7.holds Tryd.pinned (.plain (OpenSpec.ofChange kvConditionsSpec)) kvConditionsCard

/-- THE SECOND FORM's CARD OF 'faaslaw46.KvConditions'. -/
def kvConditionsUptoCard : Claim7 := { stood := { row := kvConditionsUptoRow, standIns := [], harness := (true, "7205384315468486f0b2cbe00e85ea3629154ad47d0286ff2a3717942d53887c"), looks := false }, kinds := [], alts := [], laidByText := true, laidKinds := [.data, .data, .data], laidTests := true, laidLooks := .later }
def KvConditionsUptoCardSaid : Prop := Claim7.holds Tryd.pinned (.plain (OpenSpec.upto kvConditionsSpec)) kvConditionsUptoCard
end Rows
end Go.Proofs.YtjfnokmpfekniaaDoor
