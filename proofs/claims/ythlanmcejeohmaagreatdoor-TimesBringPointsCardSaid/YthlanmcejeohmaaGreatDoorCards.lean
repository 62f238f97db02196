/-
  DERIVED. GIVEN WITH THE SEED: THE CARDS: each row of YthlanmcejeohmaaGreatDoorRows.lean that lists a variable, with what it lists TIED to the program's text (the seventh form; the later family's looks); each row that meets fmt, with fmt's text TOLD by the authors' own Lean function (tested against real Go, not proved from fmt's source: count such statements apart). THE CARD IS WHAT COUNTS. Prove the row's statement (the work); the ties are given (YthlanmcejeohmaaGreatDoorTie.lean); close each card by the builder's one call (the guide's Derived/Test/ToyasCard.lean, 'card_holds'). Laid BY PROGRAM, IN A SANDBOX (cutbox-door.mjs). By AI agents, Wed Nov 11 2026. No macro, syntax, notation, axiom, sorry.
-/
import Derived.Test.YthlanmcejeohmaaGreatDoorRows
import GoSem.ClaimSeven
namespace Go.Proofs.YthlanmcejeohmaaGreatDoor
namespace Rows

/-- THE TIED CARD OF 'tumblaw2.TimesBringPoints'. -/
def timesBringPointsCard : Claim7 := { stood := { row := timesBringPointsRow, standIns := [], harness := (true, "e072e49e04f8c13bc51eddaeb0256a87232f756ad2a15468eed31b867e495411"), looks := false }, kinds := [], alts := [], laidByText := true, laidKinds := [.data, .pinned], laidTests := true, laidLooks := .later }
def TimesBringPointsCardSaid : Prop := Claim7.holds Tryz.pinned (.plain (OpenSpec.ofChange timesBringPointsSpec)) timesBringPointsCard

/-- THE SECOND FORM's CARD OF 'tumblaw2.TimesBringPoints'. -/
def timesBringPointsUptoCard : Claim7 := { stood := { row := timesBringPointsUptoRow, standIns := [], harness := (true, "e072e49e04f8c13bc51eddaeb0256a87232f756ad2a15468eed31b867e495411"), looks := false }, kinds := [], alts := [], laidByText := true, laidKinds := [.data, .pinned], laidTests := true, laidLooks := .later }
def TimesBringPointsUptoCardSaid : Prop := Claim7.holds Tryz.pinned (.plain (OpenSpec.upto timesBringPointsSpec)) timesBringPointsUptoCard
end Rows
end Go.Proofs.YthlanmcejeohmaaGreatDoor
