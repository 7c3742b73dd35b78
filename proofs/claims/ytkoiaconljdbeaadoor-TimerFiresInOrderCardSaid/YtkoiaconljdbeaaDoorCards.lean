/-
  DERIVED. GIVEN WITH THE SEED: THE CARDS: each row of YtkoiaconljdbeaaDoorRows.lean that lists a variable, with what it lists TIED to the program's text (the seventh form; the later family's looks); each row that meets fmt, with fmt's text TOLD by the authors' own Lean function (tested against real Go, not proved from fmt's source: count such statements apart). THE CARD IS WHAT COUNTS. Prove the row's statement (the work); the ties are given (YtkoiaconljdbeaaDoorTie.lean); close each card by the builder's one call (the guide's Derived/Test/ToyasCard.lean, 'card_holds'). Laid BY PROGRAM, IN A SANDBOX (cutbox-door.mjs). By AI agents, Wed Nov 11 2026. No macro, syntax, notation, axiom, sorry.
-/
import Derived.Test.YtkoiaconljdbeaaDoorRows
import GoSem.ClaimSeven
namespace Go.Proofs.YtkoiaconljdbeaaDoor
namespace Rows

/-- THE TIED CARD OF 'faaslaw49.TimerFiresInOrder'. -/
def timerFiresInOrderCard : Claim7 := { stood := { row := timerFiresInOrderRow, standIns := [], harness := (true, "f5ac26ca755ac417790fcaeaece41356ce83a270f16fa40f4ce745a5dc195e39"), looks := false }, kinds := [], alts := [], laidByText := true, laidKinds := [.data, .data, .data], laidTests := true, laidLooks := .later }
def TimerFiresInOrderCardSaid : Prop := Claim7.holds Tryd.pinned (.plain (OpenSpec.ofChange timerFiresInOrderSpec)) timerFiresInOrderCard

/-- THE TIED CARD OF 'faaslaw49.TimerCancels'. -/
def timerCancelsCard : Claim7 := { stood := { row := timerCancelsRow, standIns := [], harness := (true, "f5ac26ca755ac417790fcaeaece41356ce83a270f16fa40f4ce745a5dc195e39"), looks := false }, kinds := [], alts := [], laidByText := true, laidKinds := [.data, .data, .data], laidTests := true, laidLooks := .later }
def TimerCancelsCardSaid : Prop := Claim7.holds Tryd.pinned (.plain (OpenSpec.ofChange timerCancelsSpec)) timerCancelsCard

/-- THE TIED CARD OF 'faaslaw49.TimerNil'. -/
def timerNilCard : Claim7 := { stood := { row := timerNilRow, standIns := [], harness := (true, "f5ac26ca755ac417790fcaeaece41356ce83a270f16fa40f4ce745a5dc195e39"), looks := false }, kinds := [], alts := [], laidByText := true, laidKinds := [.data, .data, .data], laidTests := true, laidLooks := .later }
def TimerNilCardSaid : Prop := Claim7.holds Tryd.pinned (.plain (OpenSpec.ofChange timerNilSpec)) timerNilCard

/-- THE SECOND FORM's CARD OF 'faaslaw49.TimerFiresInOrder'. -/
def timerFiresInOrderUptoCard : Claim7 := { stood := { row := timerFiresInOrderUptoRow, standIns := [], harness := (true, "f5ac26ca755ac417790fcaeaece41356ce83a270f16fa40f4ce745a5dc195e39"), looks := false }, kinds := [], alts := [], laidByText := true, laidKinds := [.data, .data, .data], laidTests := true, laidLooks := .later }
def TimerFiresInOrderUptoCardSaid : Prop := Claim7.holds Tryd.pinned (.plain (OpenSpec.upto timerFiresInOrderSpec)) timerFiresInOrderUptoCard

/-- THE SECOND FORM's CARD OF 'faaslaw49.TimerCancels'. -/
def timerCancelsUptoCard : Claim7 := { stood := { row := timerCancelsUptoRow, standIns := [], harness := (true, "f5ac26ca755ac417790fcaeaece41356ce83a270f16fa40f4ce745a5dc195e39"), looks := false }, kinds := [], alts := [], laidByText := true, laidKinds := [.data, .data, .data], laidTests := true, laidLooks := .later }
def TimerCancelsUptoCardSaid : Prop := Claim7.holds Tryd.pinned (.plain (OpenSpec.upto timerCancelsSpec)) timerCancelsUptoCard

/-- THE SECOND FORM's CARD OF 'faaslaw49.TimerNil'. -/
def timerNilUptoCard : Claim7 := { stood := { row := timerNilUptoRow, standIns := [], harness := (true, "f5ac26ca755ac417790fcaeaece41356ce83a270f16fa40f4ce745a5dc195e39"), looks := false }, kinds := [], alts := [], laidByText := true, laidKinds := [.data, .data, .data], laidTests := true, laidLooks := .later }
def TimerNilUptoCardSaid : Prop := Claim7.holds Tryd.pinned (.plain (OpenSpec.upto timerNilSpec)) timerNilUptoCard
end Rows
end Go.Proofs.YtkoiaconljdbeaaDoor
