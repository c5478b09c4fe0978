/-
  DERIVED. GIVEN WITH THE SEED: THE CARDS: each row of YtpgboohiamainaaGreatDoorRows.lean that lists a variable, with what it lists TIED to the program's text (the seventh form; the later family's looks); each row that meets fmt, with fmt's text TOLD by the authors' own Lean function (tested against real Go, not proved from fmt's source: count such statements apart). THE CARD IS WHAT COUNTS. Prove the row's statement (the work); the ties are given (YtpgboohiamainaaGreatDoorTie.lean); close each card by the builder's one call (the guide's Derived/Test/ToyasCard.lean, 'card_holds'). Laid BY PROGRAM, IN A SANDBOX (cutbox-door.mjs). By AI agents, Wed Nov 11 2026. No macro, syntax, notation, axiom, sorry.
-/
import Derived.Test.YtpgboohiamainaaGreatDoorRows
import GoSem.ClaimSeven
namespace Go.Proofs.YtpgboohiamainaaGreatDoor
namespace Rows

/-- THE TIED CARD OF 'vellumlaw23.RedoHeads'. -/
def redoHeadsCard : Claim7 := { stood := { row := redoHeadsRow, standIns := [], harness := (true, "b6a876bb67534a757a6f7ad37a30fa229ff79f3bc690b6d4ee1314fb91804e3f"), looks := false }, kinds := [], alts := [], laidByText := true, laidKinds := [.data, .data, .data, .data, .data, .widerDeep, .pinned, .pinned, .pinned], laidTests := true, laidLooks := .later }
def RedoHeadsCardSaid : Prop := Claim7.holds Tryz.pinned (.plain (OpenSpec.ofChange redoHeadsSpec)) redoHeadsCard

/-- THE SECOND FORM's CARD OF 'vellumlaw23.RedoHeads'. -/
def redoHeadsUptoCard : Claim7 := { stood := { row := redoHeadsUptoRow, standIns := [], harness := (true, "b6a876bb67534a757a6f7ad37a30fa229ff79f3bc690b6d4ee1314fb91804e3f"), looks := false }, kinds := [], alts := [], laidByText := true, laidKinds := [.data, .data, .data, .data, .data, .widerDeep, .pinned, .pinned, .pinned], laidTests := true, laidLooks := .later }
def RedoHeadsUptoCardSaid : Prop := Claim7.holds Tryz.pinned (.plain (OpenSpec.upto redoHeadsSpec)) redoHeadsUptoCard
end Rows
end Go.Proofs.YtpgboohiamainaaGreatDoor
