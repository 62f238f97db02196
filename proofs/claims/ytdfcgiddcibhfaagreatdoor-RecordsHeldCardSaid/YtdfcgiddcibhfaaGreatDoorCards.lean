/-
  DERIVED. GIVEN WITH THE SEED: THE CARDS: each row of YtdfcgiddcibhfaaGreatDoorRows.lean that lists a variable, with what it lists TIED to the program's text (the seventh form; the later family's looks); each row that meets fmt, with fmt's text TOLD by the authors' own Lean function (tested against real Go, not proved from fmt's source: count such statements apart). THE CARD IS WHAT COUNTS. Prove the row's statement (the work); the ties are given (YtdfcgiddcibhfaaGreatDoorTie.lean); close each card by the builder's one call (the guide's Derived/Test/ToyasCard.lean, 'card_holds'). Laid BY PROGRAM, IN A SANDBOX (cutbox-door.mjs). By AI agents, Wed Nov 11 2026. No macro, syntax, notation, axiom, sorry.
-/
import Derived.Test.YtdfcgiddcibhfaaGreatDoorRows
import GoSem.ClaimSeven
namespace Go.Proofs.YtdfcgiddcibhfaaGreatDoor
namespace Rows

/-- THE TIED CARD OF 'tumblaw2.RecordsHeld'. -/
def recordsHeldCard : Claim7 := { stood := { row := recordsHeldRow, standIns := [], harness := (true, "e7284591b39d914bc8707a04a5e56669f49bbb4777058d8489f04f7c3ec9b564"), looks := false }, kinds := [], alts := [], laidByText := true, laidKinds := [.data, .pinned], laidTests := true, laidLooks := .later }
def RecordsHeldCardSaid : Prop := Claim7.holds Tryz.pinned (.plain (OpenSpec.ofChange recordsHeldSpec)) recordsHeldCard

/-- THE SECOND FORM's CARD OF 'tumblaw2.RecordsHeld'. -/
def recordsHeldUptoCard : Claim7 := { stood := { row := recordsHeldUptoRow, standIns := [], harness := (true, "e7284591b39d914bc8707a04a5e56669f49bbb4777058d8489f04f7c3ec9b564"), looks := false }, kinds := [], alts := [], laidByText := true, laidKinds := [.data, .pinned], laidTests := true, laidLooks := .later }
def RecordsHeldUptoCardSaid : Prop := Claim7.holds Tryz.pinned (.plain (OpenSpec.upto recordsHeldSpec)) recordsHeldUptoCard
end Rows
end Go.Proofs.YtdfcgiddcibhfaaGreatDoor
