/-
  DERIVED. GIVEN WITH THE SEED: THE CARDS: each row of YtjlcjcabljbolaaGreatDoorRows.lean that lists a variable, with what it lists TIED to the program's text (the seventh form; the later family's looks); each row that meets fmt, with fmt's text TOLD by the authors' own Lean function (tested against real Go, not proved from fmt's source: count such statements apart). THE CARD IS WHAT COUNTS. Prove the row's statement (the work); the ties are given (YtjlcjcabljbolaaGreatDoorTie.lean); close each card by the builder's one call (the guide's Derived/Test/ToyasCard.lean, 'card_holds'). Laid BY PROGRAM, IN A SANDBOX (cutbox-door.mjs). By AI agents, Wed Nov 11 2026. No macro, syntax, notation, axiom, sorry.
-/
import Derived.Test.YtjlcjcabljbolaaGreatDoorRows
import GoSem.ClaimSeven
namespace Go.Proofs.YtjlcjcabljbolaaGreatDoor
namespace Rows

/-- THE TIED CARD OF 'tumbkeep2.UndoneIsNothing'. -/
def undoneIsNothingCard : Claim7 := { stood := { row := undoneIsNothingRow, standIns := [], harness := (true, "e91da28a9166d855188ba4093f4767b5e2e0e25b3c2b6981fc4c6f0a1a0f0a83"), looks := false }, kinds := [], alts := [], laidByText := true, laidKinds := [.data, .pinned], laidTests := true, laidLooks := .later }
def UndoneIsNothingCardSaid : Prop := Claim7.holds Tryz.pinned (.plain (OpenSpec.ofChange undoneIsNothingSpec)) undoneIsNothingCard

/-- THE SECOND FORM's CARD OF 'tumbkeep2.UndoneIsNothing'. -/
def undoneIsNothingUptoCard : Claim7 := { stood := { row := undoneIsNothingUptoRow, standIns := [], harness := (true, "e91da28a9166d855188ba4093f4767b5e2e0e25b3c2b6981fc4c6f0a1a0f0a83"), looks := false }, kinds := [], alts := [], laidByText := true, laidKinds := [.data, .pinned], laidTests := true, laidLooks := .later }
def UndoneIsNothingUptoCardSaid : Prop := Claim7.holds Tryz.pinned (.plain (OpenSpec.upto undoneIsNothingSpec)) undoneIsNothingUptoCard
end Rows
end Go.Proofs.YtjlcjcabljbolaaGreatDoor
