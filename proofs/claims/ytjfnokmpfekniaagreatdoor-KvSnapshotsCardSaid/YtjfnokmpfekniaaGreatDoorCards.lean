/-
  DERIVED. GIVEN WITH THE SEED: THE CARDS: each row of YtjfnokmpfekniaaGreatDoorRows.lean that lists a variable, with what it lists TIED to the program's text (the seventh form; the later family's looks); each row that meets fmt, with fmt's text TOLD by the authors' own Lean function (tested against real Go, not proved from fmt's source: count such statements apart). THE CARD IS WHAT COUNTS. Prove the row's statement (the work); the ties are given (YtjfnokmpfekniaaGreatDoorTie.lean); close each card by the builder's one call (the guide's Derived/Test/ToyasCard.lean, 'card_holds'). Laid BY PROGRAM, IN A SANDBOX (cutbox-door.mjs). By AI agents, Wed Nov 11 2026. No macro, syntax, notation, axiom, sorry.
-/
import Derived.Test.YtjfnokmpfekniaaGreatDoorRows
import GoSem.ClaimSeven
namespace Go.Proofs.YtjfnokmpfekniaaGreatDoor
namespace Rows

/-- THE TIED CARD OF 'faaslaw46.KvWorks'. -/
def kvWorksCard : Claim7 := { stood := { row := kvWorksRow, standIns := [], harness := (true, "b42a7c76ab0cbb07f1c680f38b63adaed68b3c7e9c5bb4eba48f237648dd048f"), looks := true }, kinds := [], alts := [], laidByText := true, laidKinds := [.data, .data, .data], laidTests := true, laidLooks := .later }
def KvWorksCardSaid : Prop := Claim7.holds Tryz.pinned (.plain (OpenSpec.ofChange kvWorksSpec)) kvWorksCard

/-- THE TIED CARD OF 'faaslaw46.KvRecords'. -/
def kvRecordsCard : Claim7 := { stood := { row := kvRecordsRow, standIns := [], harness := (true, "b42a7c76ab0cbb07f1c680f38b63adaed68b3c7e9c5bb4eba48f237648dd048f"), looks := true }, kinds := [], alts := [], laidByText := true, laidKinds := [.data, .data, .data, .sentinel, .sentinel], laidTests := true, laidLooks := .later }
def KvRecordsCardSaid : Prop := Claim7.holds Tryz.pinned (.plain (OpenSpec.ofChange kvRecordsSpec)) kvRecordsCard

/-- THE TIED CARD OF 'faaslaw46.KvSnapshots'. -/
def kvSnapshotsCard : Claim7 := { stood := { row := kvSnapshotsRow, standIns := [], harness := (true, "b42a7c76ab0cbb07f1c680f38b63adaed68b3c7e9c5bb4eba48f237648dd048f"), looks := true }, kinds := [], alts := [], laidByText := true, laidKinds := [.data, .data, .data, .sentinel, .sentinel], laidTests := true, laidLooks := .later }
def KvSnapshotsCardSaid : Prop := Claim7.holds Tryz.pinned (.plain (OpenSpec.ofChange kvSnapshotsSpec)) kvSnapshotsCard

/-- THE TIED CARD OF 'faaslaw46.KvReplays'. -/
def kvReplaysCard : Claim7 := { stood := { row := kvReplaysRow, standIns := [], harness := (true, "b42a7c76ab0cbb07f1c680f38b63adaed68b3c7e9c5bb4eba48f237648dd048f"), looks := true }, kinds := [], alts := [], laidByText := true, laidKinds := [.data, .data, .data, .sentinel, .sentinel], laidTests := true, laidLooks := .later }
def KvReplaysCardSaid : Prop := Claim7.holds Tryz.pinned (.plain (OpenSpec.ofChange kvReplaysSpec)) kvReplaysCard

/-- THE TIED CARD OF 'faaslaw46.KvLoads'. -/
def kvLoadsCard : Claim7 := { stood := { row := kvLoadsRow, standIns := [], harness := (true, "b42a7c76ab0cbb07f1c680f38b63adaed68b3c7e9c5bb4eba48f237648dd048f"), looks := true }, kinds := [], alts := [], laidByText := true, laidKinds := [.data, .data, .data, .sentinel, .sentinel], laidTests := true, laidLooks := .later }
def KvLoadsCardSaid : Prop := Claim7.holds Tryz.pinned (.plain (OpenSpec.ofChange kvLoadsSpec)) kvLoadsCard

/-- THE TIED CARD OF 'faaslaw46.KvNil'. -/
def kvNilCard : Claim7 := { stood := { row := kvNilRow, standIns := [], harness := (true, "b42a7c76ab0cbb07f1c680f38b63adaed68b3c7e9c5bb4eba48f237648dd048f"), looks := true }, kinds := [], alts := [], laidByText := true, laidKinds := [.data, .data, .data, .sentinel, .sentinel], laidTests := true, laidLooks := .later }
def KvNilCardSaid : Prop := Claim7.holds Tryz.pinned (.plain (OpenSpec.ofChange kvNilSpec)) kvNilCard

/-- THE SECOND FORM's CARD OF 'faaslaw46.KvWorks'. -/
def kvWorksUptoCard : Claim7 := { stood := { row := kvWorksUptoRow, standIns := [], harness := (true, "b42a7c76ab0cbb07f1c680f38b63adaed68b3c7e9c5bb4eba48f237648dd048f"), looks := true }, kinds := [], alts := [], laidByText := true, laidKinds := [.data, .data, .data], laidTests := true, laidLooks := .later }
def KvWorksUptoCardSaid : Prop := Claim7.holds Tryz.pinned (.plain (OpenSpec.upto kvWorksSpec)) kvWorksUptoCard

/-- THE SECOND FORM's CARD OF 'faaslaw46.KvRecords'. -/
def kvRecordsUptoCard : Claim7 := { stood := { row := kvRecordsUptoRow, standIns := [], harness := (true, "b42a7c76ab0cbb07f1c680f38b63adaed68b3c7e9c5bb4eba48f237648dd048f"), looks := true }, kinds := [], alts := [], laidByText := true, laidKinds := [.data, .data, .data, .sentinel, .sentinel], laidTests := true, laidLooks := .later }
def KvRecordsUptoCardSaid : Prop := Claim7.holds Tryz.pinned (.plain (OpenSpec.upto kvRecordsSpec)) kvRecordsUptoCard

/-- THE SECOND FORM's CARD OF 'faaslaw46.KvSnapshots'. -/
def kvSnapshotsUptoCard : Claim7 := { stood := { row := kvSnapshotsUptoRow, standIns := [], harness := (true, "b42a7c76ab0cbb07f1c680f38b63adaed68b3c7e9c5bb4eba48f237648dd048f"), looks := true }, kinds := [], alts := [], laidByText := true, laidKinds := [.data, .data, .data, .sentinel, .sentinel], laidTests := true, laidLooks := .later }
def KvSnapshotsUptoCardSaid : Prop := Claim7.holds Tryz.pinned (.plain (OpenSpec.upto kvSnapshotsSpec)) kvSnapshotsUptoCard

/-- THE SECOND FORM's CARD OF 'faaslaw46.KvReplays'. -/
def kvReplaysUptoCard : Claim7 := { stood := { row := kvReplaysUptoRow, standIns := [], harness := (true, "b42a7c76ab0cbb07f1c680f38b63adaed68b3c7e9c5bb4eba48f237648dd048f"), looks := true }, kinds := [], alts := [], laidByText := true, laidKinds := [.data, .data, .data, .sentinel, .sentinel], laidTests := true, laidLooks := .later }
def KvReplaysUptoCardSaid : Prop := Claim7.holds Tryz.pinned (.plain (OpenSpec.upto kvReplaysSpec)) kvReplaysUptoCard

/-- THE SECOND FORM's CARD OF 'faaslaw46.KvLoads'. -/
def kvLoadsUptoCard : Claim7 := { stood := { row := kvLoadsUptoRow, standIns := [], harness := (true, "b42a7c76ab0cbb07f1c680f38b63adaed68b3c7e9c5bb4eba48f237648dd048f"), looks := true }, kinds := [], alts := [], laidByText := true, laidKinds := [.data, .data, .data, .sentinel, .sentinel], laidTests := true, laidLooks := .later }
def KvLoadsUptoCardSaid : Prop := Claim7.holds Tryz.pinned (.plain (OpenSpec.upto kvLoadsSpec)) kvLoadsUptoCard

/-- THE SECOND FORM's CARD OF 'faaslaw46.KvNil'. -/
def kvNilUptoCard : Claim7 := { stood := { row := kvNilUptoRow, standIns := [], harness := (true, "b42a7c76ab0cbb07f1c680f38b63adaed68b3c7e9c5bb4eba48f237648dd048f"), looks := true }, kinds := [], alts := [], laidByText := true, laidKinds := [.data, .data, .data, .sentinel, .sentinel], laidTests := true, laidLooks := .later }
def KvNilUptoCardSaid : Prop := Claim7.holds Tryz.pinned (.plain (OpenSpec.upto kvNilSpec)) kvNilUptoCard
end Rows
end Go.Proofs.YtjfnokmpfekniaaGreatDoor
