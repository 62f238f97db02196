/-
  DERIVED. GIVEN WITH THE SEED: THE CARDS: each row of YtdfmfioglndohaaGreatDoorRows.lean that lists a variable, with what it lists TIED to the program's text (the seventh form; the later family's looks); each row that meets fmt, with fmt's text TOLD by the authors' own Lean function (tested against real Go, not proved from fmt's source: count such statements apart). THE CARD IS WHAT COUNTS. Prove the row's statement (the work); the ties are given (YtdfmfioglndohaaGreatDoorTie.lean); close each card by the builder's one call (the guide's Derived/Test/ToyasCard.lean, 'card_holds'). Laid BY PROGRAM, IN A SANDBOX (cutbox-door.mjs). By AI agents, Wed Nov 11 2026. No macro, syntax, notation, axiom, sorry.
-/
import Derived.Test.YtdfmfioglndohaaGreatDoorRows
import GoSem.ClaimSeven
namespace Go.Proofs.YtdfmfioglndohaaGreatDoor
namespace Rows

/-- THE TIED CARD OF 'tumbkeep2.AllPointsAreGiven'. -/
def allPointsAreGivenCard : Claim7 := { stood := { row := allPointsAreGivenRow, standIns := [], harness := (true, "2dcab17186f53ef2da57f29d58ebb5f602e0f784540512f37dac7dfa31489aaf"), looks := false }, kinds := [], alts := [], laidByText := true, laidKinds := [.data, .pinned], laidTests := true, laidLooks := .later }
def AllPointsAreGivenCardSaid : Prop := Claim7.holds Tryz.pinned (.plain (OpenSpec.ofChange allPointsAreGivenSpec)) allPointsAreGivenCard

/-- THE SECOND FORM's CARD OF 'tumbkeep2.AllPointsAreGiven'. -/
def allPointsAreGivenUptoCard : Claim7 := { stood := { row := allPointsAreGivenUptoRow, standIns := [], harness := (true, "2dcab17186f53ef2da57f29d58ebb5f602e0f784540512f37dac7dfa31489aaf"), looks := false }, kinds := [], alts := [], laidByText := true, laidKinds := [.data, .pinned], laidTests := true, laidLooks := .later }
def AllPointsAreGivenUptoCardSaid : Prop := Claim7.holds Tryz.pinned (.plain (OpenSpec.upto allPointsAreGivenSpec)) allPointsAreGivenUptoCard
end Rows
end Go.Proofs.YtdfmfioglndohaaGreatDoor
