/-
  DERIVED. GIVEN WITH THE SEED: THE CARDS: each row of YtbmkfjgekokfcaaGreatDoorRows.lean that lists a variable, with what it lists TIED to the program's text (the seventh form; the later family's looks); each row that meets fmt, with fmt's text TOLD by the authors' own Lean function (tested against real Go, not proved from fmt's source: count such statements apart). THE CARD IS WHAT COUNTS. Prove the row's statement (the work); the ties are given (YtbmkfjgekokfcaaGreatDoorTie.lean); close each card by the builder's one call (the guide's Derived/Test/ToyasCard.lean, 'card_holds'). Laid BY PROGRAM, IN A SANDBOX (cutbox-door.mjs). By AI agents, Wed Nov 11 2026. No macro, syntax, notation, axiom, sorry.
-/
import Derived.Test.YtbmkfjgekokfcaaGreatDoorRows
import GoSem.ClaimSeven
namespace Go.Proofs.YtbmkfjgekokfcaaGreatDoor
namespace Rows

/-- THE TIED CARD OF 'tumbkeep2.RecordsFollowSteps'. -/
def recordsFollowStepsCard : Claim7 := { stood := { row := recordsFollowStepsRow, standIns := [], harness := (true, "88551c1062e499d840c219c3ccc0e1c01633ecc40fffd68ed87c6adda0284fe6"), looks := false }, kinds := [], alts := [], laidByText := true, laidKinds := [.data, .pinned], laidTests := true, laidLooks := .later }
def RecordsFollowStepsCardSaid : Prop := Claim7.holds Tryz.pinned (.plain (OpenSpec.ofChange recordsFollowStepsSpec)) recordsFollowStepsCard

/-- THE SECOND FORM's CARD OF 'tumbkeep2.RecordsFollowSteps'. -/
def recordsFollowStepsUptoCard : Claim7 := { stood := { row := recordsFollowStepsUptoRow, standIns := [], harness := (true, "88551c1062e499d840c219c3ccc0e1c01633ecc40fffd68ed87c6adda0284fe6"), looks := false }, kinds := [], alts := [], laidByText := true, laidKinds := [.data, .pinned], laidTests := true, laidLooks := .later }
def RecordsFollowStepsUptoCardSaid : Prop := Claim7.holds Tryz.pinned (.plain (OpenSpec.upto recordsFollowStepsSpec)) recordsFollowStepsUptoCard
end Rows
end Go.Proofs.YtbmkfjgekokfcaaGreatDoor
