/-
  DERIVED. GIVEN WITH THE SEED: THE CARDS: each row of YtfdmkmnjfhbliaaGreatDoorRows.lean that lists a variable, with what it lists TIED to the program's text (the seventh form; the later family's looks); each row that meets fmt, with fmt's text TOLD by the authors' own Lean function (tested against real Go, not proved from fmt's source: count such statements apart). THE CARD IS WHAT COUNTS. Prove the row's statement (the work); the ties are given (YtfdmkmnjfhbliaaGreatDoorTie.lean); close each card by the builder's one call (the guide's Derived/Test/ToyasCard.lean, 'card_holds'). Laid BY PROGRAM, IN A SANDBOX (cutbox-door.mjs). By AI agents, Wed Nov 11 2026. No macro, syntax, notation, axiom, sorry.
-/
import Derived.Test.YtfdmkmnjfhbliaaGreatDoorRows
import GoSem.ClaimSeven
namespace Go.Proofs.YtfdmkmnjfhbliaaGreatDoor
namespace Rows

/-- THE TIED CARD OF 'tumbtop.TopRanksBringPoints'. -/
def topRanksBringPointsCard : Claim7 := { stood := { row := topRanksBringPointsRow, standIns := [], harness := (true, "35b14b1f414aa86b25d1a616dec229e00348c079120c84c45ab1391b8569f7ab"), looks := false }, kinds := [], alts := [], laidByText := true, laidKinds := [.data, .pinned], laidTests := true, laidLooks := .later }
def TopRanksBringPointsCardSaid : Prop := Claim7.holds Tryz.pinned (.plain (OpenSpec.ofChange topRanksBringPointsSpec)) topRanksBringPointsCard

/-- THE SECOND FORM's CARD OF 'tumbtop.TopRanksBringPoints'. -/
def topRanksBringPointsUptoCard : Claim7 := { stood := { row := topRanksBringPointsUptoRow, standIns := [], harness := (true, "35b14b1f414aa86b25d1a616dec229e00348c079120c84c45ab1391b8569f7ab"), looks := false }, kinds := [], alts := [], laidByText := true, laidKinds := [.data, .pinned], laidTests := true, laidLooks := .later }
def TopRanksBringPointsUptoCardSaid : Prop := Claim7.holds Tryz.pinned (.plain (OpenSpec.upto topRanksBringPointsSpec)) topRanksBringPointsUptoCard
end Rows
end Go.Proofs.YtfdmkmnjfhbliaaGreatDoor
