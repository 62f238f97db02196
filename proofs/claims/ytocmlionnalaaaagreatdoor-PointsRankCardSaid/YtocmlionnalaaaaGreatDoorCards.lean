/-
  DERIVED. GIVEN WITH THE SEED: THE CARDS: each row of YtocmlionnalaaaaGreatDoorRows.lean that lists a variable, with what it lists TIED to the program's text (the seventh form; the later family's looks); each row that meets fmt, with fmt's text TOLD by the authors' own Lean function (tested against real Go, not proved from fmt's source: count such statements apart). THE CARD IS WHAT COUNTS. Prove the row's statement (the work); the ties are given (YtocmlionnalaaaaGreatDoorTie.lean); close each card by the builder's one call (the guide's Derived/Test/ToyasCard.lean, 'card_holds'). Laid BY PROGRAM, IN A SANDBOX (cutbox-door.mjs). By AI agents, Wed Nov 11 2026. No macro, syntax, notation, axiom, sorry.
-/
import Derived.Test.YtocmlionnalaaaaGreatDoorRows
import GoSem.ClaimSeven
namespace Go.Proofs.YtocmlionnalaaaaGreatDoor
namespace Rows

/-- THE TIED CARD OF 'tumblaw2.PointsRank'. -/
def pointsRankCard : Claim7 := { stood := { row := pointsRankRow, standIns := [], harness := (true, "639730875a7fbf644e5d0d7e321a7a3ad54d5b03768359f397cf3538fde5aecd"), looks := false }, kinds := [], alts := [], laidByText := true, laidKinds := [.data, .data, .data, .data, .pinned], laidTests := true, laidLooks := .later }
def PointsRankCardSaid : Prop := Claim7.holds Tryz.pinned (.plain (OpenSpec.ofChange pointsRankSpec)) pointsRankCard

/-- THE SECOND FORM's CARD OF 'tumblaw2.PointsRank'. -/
def pointsRankUptoCard : Claim7 := { stood := { row := pointsRankUptoRow, standIns := [], harness := (true, "639730875a7fbf644e5d0d7e321a7a3ad54d5b03768359f397cf3538fde5aecd"), looks := false }, kinds := [], alts := [], laidByText := true, laidKinds := [.data, .data, .data, .data, .pinned], laidTests := true, laidLooks := .later }
def PointsRankUptoCardSaid : Prop := Claim7.holds Tryz.pinned (.plain (OpenSpec.upto pointsRankSpec)) pointsRankUptoCard
end Rows
end Go.Proofs.YtocmlionnalaaaaGreatDoor
