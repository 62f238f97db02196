/-
  DERIVED. GIVEN WITH THE SEED: THE CARDS: each row of YtgfjjiheamdgbaaGreatDoorRows.lean that lists a variable, with what it lists TIED to the program's text (the seventh form; the later family's looks); each row that meets fmt, with fmt's text TOLD by the authors' own Lean function (tested against real Go, not proved from fmt's source: count such statements apart). THE CARD IS WHAT COUNTS. Prove the row's statement (the work); the ties are given (YtgfjjiheamdgbaaGreatDoorTie.lean); close each card by the builder's one call (the guide's Derived/Test/ToyasCard.lean, 'card_holds'). Laid BY PROGRAM, IN A SANDBOX (cutbox-door.mjs). By AI agents, Wed Nov 11 2026. No macro, syntax, notation, axiom, sorry.
-/
import Derived.Test.YtgfjjiheamdgbaaGreatDoorRows
import GoSem.ClaimSeven
namespace Go.Proofs.YtgfjjiheamdgbaaGreatDoor
namespace Rows

/-- THE TIED CARD OF 'tumblaw2.StepsFollowed'. -/
def stepsFollowedCard : Claim7 := { stood := { row := stepsFollowedRow, standIns := [], harness := (true, "900b1b8aef639be3c657665591a204d82c435215ec6f13c70e7e41c382bbf77d"), looks := false }, kinds := [], alts := [], laidByText := true, laidKinds := [.data, .pinned], laidTests := true, laidLooks := .later }
def StepsFollowedCardSaid : Prop := Claim7.holds Tryz.pinned (.plain (OpenSpec.ofChange stepsFollowedSpec)) stepsFollowedCard

/-- THE SECOND FORM's CARD OF 'tumblaw2.StepsFollowed'. -/
def stepsFollowedUptoCard : Claim7 := { stood := { row := stepsFollowedUptoRow, standIns := [], harness := (true, "900b1b8aef639be3c657665591a204d82c435215ec6f13c70e7e41c382bbf77d"), looks := false }, kinds := [], alts := [], laidByText := true, laidKinds := [.data, .pinned], laidTests := true, laidLooks := .later }
def StepsFollowedUptoCardSaid : Prop := Claim7.holds Tryz.pinned (.plain (OpenSpec.upto stepsFollowedSpec)) stepsFollowedUptoCard
end Rows
end Go.Proofs.YtgfjjiheamdgbaaGreatDoor
