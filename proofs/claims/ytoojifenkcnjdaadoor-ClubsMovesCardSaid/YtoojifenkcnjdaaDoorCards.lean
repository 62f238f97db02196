/-
  DERIVED. GIVEN WITH THE SEED: THE CARDS: each row of YtoojifenkcnjdaaDoorRows.lean that lists a variable, with what it lists TIED to the program's text (the seventh form; the later family's looks); each row that meets fmt, with fmt's text TOLD by the authors' own Lean function (tested against real Go, not proved from fmt's source: count such statements apart). THE CARD IS WHAT COUNTS. Prove the row's statement (the work); the ties are given (YtoojifenkcnjdaaDoorTie.lean); close each card by the builder's one call (the guide's Derived/Test/ToyasCard.lean, 'card_holds'). Laid BY PROGRAM, IN A SANDBOX (cutbox-door.mjs). By AI agents, Wed Nov 11 2026. No macro, syntax, notation, axiom, sorry.
-/
import Derived.Test.YtoojifenkcnjdaaDoorRows
import GoSem.ClaimSeven
namespace Go.Proofs.YtoojifenkcnjdaaDoor
namespace Rows

/-- THE TIED CARD OF 'tumblaw2.ClubsMoves'. -/
def clubsMovesCard : Claim7 := { stood := { row := clubsMovesRow, standIns := [], harness := (true, "d1e1877c842798335c9fc159093f8b5a42c5bcc637b07451d9e14f544c36c9f2"), looks := false }, kinds := [], alts := [], laidByText := true, laidKinds := [.data, .pinned], laidTests := true, laidLooks := .later }
def ClubsMovesCardSaid : Prop := Claim7.holds Tryd.pinned (.plain (OpenSpec.ofChange clubsMovesSpec)) clubsMovesCard

/-- THE SECOND FORM's CARD OF 'tumblaw2.ClubsMoves'. -/
def clubsMovesUptoCard : Claim7 := { stood := { row := clubsMovesUptoRow, standIns := [], harness := (true, "d1e1877c842798335c9fc159093f8b5a42c5bcc637b07451d9e14f544c36c9f2"), looks := false }, kinds := [], alts := [], laidByText := true, laidKinds := [.data, .pinned], laidTests := true, laidLooks := .later }
def ClubsMovesUptoCardSaid : Prop := Claim7.holds Tryd.pinned (.plain (OpenSpec.upto clubsMovesSpec)) clubsMovesUptoCard
end Rows
end Go.Proofs.YtoojifenkcnjdaaDoor
