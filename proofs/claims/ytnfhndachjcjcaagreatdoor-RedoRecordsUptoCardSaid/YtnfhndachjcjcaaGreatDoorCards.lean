/-
  DERIVED. GIVEN WITH THE SEED: THE CARDS: each row of YtnfhndachjcjcaaGreatDoorRows.lean that lists a variable, with what it lists TIED to the program's text (the seventh form; the later family's looks); each row that meets fmt, with fmt's text TOLD by the authors' own Lean function (tested against real Go, not proved from fmt's source: count such statements apart). THE CARD IS WHAT COUNTS. Prove the row's statement (the work); the ties are given (YtnfhndachjcjcaaGreatDoorTie.lean); close each card by the builder's one call (the guide's Derived/Test/ToyasCard.lean, 'card_holds'). Laid BY PROGRAM, IN A SANDBOX (cutbox-door.mjs). By AI agents, Wed Nov 11 2026. No macro, syntax, notation, axiom, sorry.
-/
import Derived.Test.YtnfhndachjcjcaaGreatDoorRows
import GoSem.ClaimSeven
namespace Go.Proofs.YtnfhndachjcjcaaGreatDoor
namespace Rows

/-- THE TIED CARD OF 'vellumlaw23.RedoRecords'. -/
def redoRecordsCard : Claim7 := { stood := { row := redoRecordsRow, standIns := [], harness := (true, "d0768a4ba934a1053379d0c0e61062e857709bddce2f8e50ebedbf5f2774b0cb"), looks := false }, kinds := [], alts := [], laidByText := true, laidKinds := [.data, .pinned], laidTests := true, laidLooks := .later }
def RedoRecordsCardSaid : Prop := Claim7.holds Tryz.pinned (.plain (OpenSpec.ofChange redoRecordsSpec)) redoRecordsCard

/-- THE SECOND FORM's CARD OF 'vellumlaw23.RedoRecords'. -/
def redoRecordsUptoCard : Claim7 := { stood := { row := redoRecordsUptoRow, standIns := [], harness := (true, "d0768a4ba934a1053379d0c0e61062e857709bddce2f8e50ebedbf5f2774b0cb"), looks := false }, kinds := [], alts := [], laidByText := true, laidKinds := [.data, .pinned], laidTests := true, laidLooks := .later }
def RedoRecordsUptoCardSaid : Prop := Claim7.holds Tryz.pinned (.plain (OpenSpec.upto redoRecordsSpec)) redoRecordsUptoCard
end Rows
end Go.Proofs.YtnfhndachjcjcaaGreatDoor
