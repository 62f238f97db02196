/-
  DERIVED. GIVEN WITH THE SEED: THE CARDS: each row of YtfdcgchgkojfiaaGreatDoorRows.lean that lists a variable, with what it lists TIED to the program's text (the seventh form; the later family's looks); each row that meets fmt, with fmt's text TOLD by the authors' own Lean function (tested against real Go, not proved from fmt's source: count such statements apart). THE CARD IS WHAT COUNTS. Prove the row's statement (the work); the ties are given (YtfdcgchgkojfiaaGreatDoorTie.lean); close each card by the builder's one call (the guide's Derived/Test/ToyasCard.lean, 'card_holds'). Laid BY PROGRAM, IN A SANDBOX (cutbox-door.mjs). By AI agents, Wed Nov 11 2026. No macro, syntax, notation, axiom, sorry.
-/
import Derived.Test.YtfdcgchgkojfiaaGreatDoorRows
import GoSem.ClaimSeven
namespace Go.Proofs.YtfdcgchgkojfiaaGreatDoor
namespace Rows

/-- THE TIED CARD OF 'tumbkeep2.PointsStay'. -/
def pointsStayCard : Claim7 := { stood := { row := pointsStayRow, standIns := [], harness := (true, "743ceaabe5fe2effabcf8a4abd68e193519dc44128b7733c4a5e64954bb77fe4"), looks := false }, kinds := [], alts := [], laidByText := true, laidKinds := [.data, .pinned], laidTests := true, laidLooks := .later }
def PointsStayCardSaid : Prop := Claim7.holds Tryz.pinned (.plain (OpenSpec.ofChange pointsStaySpec)) pointsStayCard

/-- THE SECOND FORM's CARD OF 'tumbkeep2.PointsStay'. -/
def pointsStayUptoCard : Claim7 := { stood := { row := pointsStayUptoRow, standIns := [], harness := (true, "743ceaabe5fe2effabcf8a4abd68e193519dc44128b7733c4a5e64954bb77fe4"), looks := false }, kinds := [], alts := [], laidByText := true, laidKinds := [.data, .pinned], laidTests := true, laidLooks := .later }
def PointsStayUptoCardSaid : Prop := Claim7.holds Tryz.pinned (.plain (OpenSpec.upto pointsStaySpec)) pointsStayUptoCard
end Rows
end Go.Proofs.YtfdcgchgkojfiaaGreatDoor
