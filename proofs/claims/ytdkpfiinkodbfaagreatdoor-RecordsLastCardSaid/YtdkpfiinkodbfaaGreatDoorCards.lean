/-
  DERIVED. GIVEN WITH THE SEED: THE CARDS: each row of YtdkpfiinkodbfaaGreatDoorRows.lean that lists a variable, with what it lists TIED to the program's text (the seventh form; the later family's looks); each row that meets fmt, with fmt's text TOLD by the authors' own Lean function (tested against real Go, not proved from fmt's source: count such statements apart). THE CARD IS WHAT COUNTS. Prove the row's statement (the work); the ties are given (YtdkpfiinkodbfaaGreatDoorTie.lean); close each card by the builder's one call (the guide's Derived/Test/ToyasCard.lean, 'card_holds'). Laid BY PROGRAM, IN A SANDBOX (cutbox-door.mjs). By AI agents, Wed Nov 11 2026. No macro, syntax, notation, axiom, sorry.
-/
import Derived.Test.YtdkpfiinkodbfaaGreatDoorRows
import GoSem.ClaimSeven
namespace Go.Proofs.YtdkpfiinkodbfaaGreatDoor
namespace Rows

/-- THE TIED CARD OF 'tumblaw2.RecordsLast'. -/
def recordsLastCard : Claim7 := { stood := { row := recordsLastRow, standIns := [], harness := (true, "b6be4db4ef9472236a9e7bec06c973de7611b97cf1a674fd9207358060756ba3"), looks := false }, kinds := [], alts := [], laidByText := true, laidKinds := [.data, .pinned], laidTests := true, laidLooks := .later }
def RecordsLastCardSaid : Prop := Claim7.holds Tryz.pinned (.plain (OpenSpec.ofChange recordsLastSpec)) recordsLastCard

/-- THE SECOND FORM's CARD OF 'tumblaw2.RecordsLast'. -/
def recordsLastUptoCard : Claim7 := { stood := { row := recordsLastUptoRow, standIns := [], harness := (true, "b6be4db4ef9472236a9e7bec06c973de7611b97cf1a674fd9207358060756ba3"), looks := false }, kinds := [], alts := [], laidByText := true, laidKinds := [.data, .pinned], laidTests := true, laidLooks := .later }
def RecordsLastUptoCardSaid : Prop := Claim7.holds Tryz.pinned (.plain (OpenSpec.upto recordsLastSpec)) recordsLastUptoCard
end Rows
end Go.Proofs.YtdkpfiinkodbfaaGreatDoor
