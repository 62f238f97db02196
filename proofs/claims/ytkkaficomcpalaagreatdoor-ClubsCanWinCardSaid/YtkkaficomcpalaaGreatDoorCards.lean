/-
  DERIVED. GIVEN WITH THE SEED: THE CARDS: each row of YtkkaficomcpalaaGreatDoorRows.lean that lists a variable, with what it lists TIED to the program's text (the seventh form; the later family's looks); each row that meets fmt, with fmt's text TOLD by the authors' own Lean function (tested against real Go, not proved from fmt's source: count such statements apart). THE CARD IS WHAT COUNTS. Prove the row's statement (the work); the ties are given (YtkkaficomcpalaaGreatDoorTie.lean); close each card by the builder's one call (the guide's Derived/Test/ToyasCard.lean, 'card_holds'). Laid BY PROGRAM, IN A SANDBOX (cutbox-door.mjs). By AI agents, Wed Nov 11 2026. No macro, syntax, notation, axiom, sorry.
-/
import Derived.Test.YtkkaficomcpalaaGreatDoorRows
import GoSem.ClaimSeven
namespace Go.Proofs.YtkkaficomcpalaaGreatDoor
namespace Rows

/-- THE TIED CARD OF 'tumblaw2.ClubsCanWin'. -/
def clubsCanWinCard : Claim7 := { stood := { row := clubsCanWinRow, standIns := [], harness := (true, "d15d8e5ddc45634a9afd225bcb8028fb74dc0669b48a3b289ea824793fb1bf50"), looks := false }, kinds := [], alts := [], laidByText := true, laidKinds := [.data, .pinned], laidTests := true, laidLooks := .later }
def ClubsCanWinCardSaid : Prop := Claim7.holds Tryz.pinned (.plain (OpenSpec.ofChange clubsCanWinSpec)) clubsCanWinCard

/-- THE SECOND FORM's CARD OF 'tumblaw2.ClubsCanWin'. -/
def clubsCanWinUptoCard : Claim7 := { stood := { row := clubsCanWinUptoRow, standIns := [], harness := (true, "d15d8e5ddc45634a9afd225bcb8028fb74dc0669b48a3b289ea824793fb1bf50"), looks := false }, kinds := [], alts := [], laidByText := true, laidKinds := [.data, .pinned], laidTests := true, laidLooks := .later }
def ClubsCanWinUptoCardSaid : Prop := Claim7.holds Tryz.pinned (.plain (OpenSpec.upto clubsCanWinSpec)) clubsCanWinUptoCard
end Rows
end Go.Proofs.YtkkaficomcpalaaGreatDoor
