/-
  DERIVED. GIVEN WITH THE SEED: THE CARDS: each row of YtngikibiddnndaaDoorRows.lean that lists a variable, with what it lists TIED to the program's text (the seventh form; the later family's looks); each row that meets fmt, with fmt's text TOLD by the authors' own Lean function (tested against real Go, not proved from fmt's source: count such statements apart). THE CARD IS WHAT COUNTS. Prove the row's statement (the work); the ties are given (YtngikibiddnndaaDoorTie.lean); close each card by the builder's one call (the guide's Derived/Test/ToyasCard.lean, 'card_holds'). Laid BY PROGRAM, IN A SANDBOX (cutbox-door.mjs). By AI agents, Wed Nov 11 2026. No macro, syntax, notation, axiom, sorry.
-/
import Derived.Test.YtngikibiddnndaaDoorRows
import GoSem.ClaimSeven
namespace Go.Proofs.YtngikibiddnndaaDoor
namespace Rows

/-- THE TIED CARD OF 'tumblaw2.DaysAges'. -/
def daysAgesCard : Claim7 := { stood := { row := daysAgesRow, standIns := [], harness := (true, "9b78ee972602fe9b34fcc1b6d46ae61e9c14ebe74fd48653c133d01293ae17e0"), looks := false }, kinds := [], alts := [], laidByText := true, laidKinds := [.data, .pinned], laidTests := true, laidLooks := .later }
def DaysAgesCardSaid : Prop := Claim7.holds Tryd.pinned (.plain (OpenSpec.ofChange daysAgesSpec)) daysAgesCard

/-- THE SECOND FORM's CARD OF 'tumblaw2.DaysAges'. -/
def daysAgesUptoCard : Claim7 := { stood := { row := daysAgesUptoRow, standIns := [], harness := (true, "9b78ee972602fe9b34fcc1b6d46ae61e9c14ebe74fd48653c133d01293ae17e0"), looks := false }, kinds := [], alts := [], laidByText := true, laidKinds := [.data, .pinned], laidTests := true, laidLooks := .later }
def DaysAgesUptoCardSaid : Prop := Claim7.holds Tryd.pinned (.plain (OpenSpec.upto daysAgesSpec)) daysAgesUptoCard
end Rows
end Go.Proofs.YtngikibiddnndaaDoor
