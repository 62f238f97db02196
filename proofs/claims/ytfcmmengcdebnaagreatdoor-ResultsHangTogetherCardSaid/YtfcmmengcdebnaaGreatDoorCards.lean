/-
  DERIVED. GIVEN WITH THE SEED: THE CARDS: each row of YtfcmmengcdebnaaGreatDoorRows.lean that lists a variable, with what it lists TIED to the program's text (the seventh form; the later family's looks); each row that meets fmt, with fmt's text TOLD by the authors' own Lean function (tested against real Go, not proved from fmt's source: count such statements apart). THE CARD IS WHAT COUNTS. Prove the row's statement (the work); the ties are given (YtfcmmengcdebnaaGreatDoorTie.lean); close each card by the builder's one call (the guide's Derived/Test/ToyasCard.lean, 'card_holds'). Laid BY PROGRAM, IN A SANDBOX (cutbox-door.mjs). By AI agents, Wed Nov 11 2026. No macro, syntax, notation, axiom, sorry.
-/
import Derived.Test.YtfcmmengcdebnaaGreatDoorRows
import GoSem.ClaimSeven
namespace Go.Proofs.YtfcmmengcdebnaaGreatDoor
namespace Rows

/-- THE TIED CARD OF 'tumbkeep2.ResultsHangTogether'. -/
def resultsHangTogetherCard : Claim7 := { stood := { row := resultsHangTogetherRow, standIns := [], harness := (true, "63f95459657da9325fb0c3ea8c5a8131e80a8254458f2d8530582d3eda171636"), looks := false }, kinds := [], alts := [], laidByText := true, laidKinds := [.data, .pinned], laidTests := true, laidLooks := .later }
def ResultsHangTogetherCardSaid : Prop := Claim7.holds Tryz.pinned (.plain (OpenSpec.ofChange resultsHangTogetherSpec)) resultsHangTogetherCard

/-- THE SECOND FORM's CARD OF 'tumbkeep2.ResultsHangTogether'. -/
def resultsHangTogetherUptoCard : Claim7 := { stood := { row := resultsHangTogetherUptoRow, standIns := [], harness := (true, "63f95459657da9325fb0c3ea8c5a8131e80a8254458f2d8530582d3eda171636"), looks := false }, kinds := [], alts := [], laidByText := true, laidKinds := [.data, .pinned], laidTests := true, laidLooks := .later }
def ResultsHangTogetherUptoCardSaid : Prop := Claim7.holds Tryz.pinned (.plain (OpenSpec.upto resultsHangTogetherSpec)) resultsHangTogetherUptoCard
end Rows
end Go.Proofs.YtfcmmengcdebnaaGreatDoor
