/-
  DERIVED. GIVEN WITH THE SEED: THE CARDS: each row of YtmdjmbbmlohnlaaGreatDoorRows.lean that lists a variable, with what it lists TIED to the program's text (the seventh form; the later family's looks); each row that meets fmt, with fmt's text TOLD by the authors' own Lean function (tested against real Go, not proved from fmt's source: count such statements apart). THE CARD IS WHAT COUNTS. Prove the row's statement (the work); the ties are given (YtmdjmbbmlohnlaaGreatDoorTie.lean); close each card by the builder's one call (the guide's Derived/Test/ToyasCard.lean, 'card_holds'). Laid BY PROGRAM, IN A SANDBOX (cutbox-door.mjs). By AI agents, Wed Nov 11 2026. No macro, syntax, notation, axiom, sorry.
-/
import Derived.Test.YtmdjmbbmlohnlaaGreatDoorRows
import GoSem.ClaimSeven
namespace Go.Proofs.YtmdjmbbmlohnlaaGreatDoor
namespace Rows

/-- THE TIED CARD OF 'tumblaw2.RanksBringPoints'. -/
def ranksBringPointsCard : Claim7 := { stood := { row := ranksBringPointsRow, standIns := [], harness := (true, "6e904732542ab8d6d674cc92efe34d334a564969b20ce0c2aff37ffc0e027e62"), looks := false }, kinds := [], alts := [], laidByText := true, laidKinds := [.data, .pinned], laidTests := true, laidLooks := .later }
def RanksBringPointsCardSaid : Prop := Claim7.holds Tryz.pinned (.plain (OpenSpec.ofChange ranksBringPointsSpec)) ranksBringPointsCard

/-- THE SECOND FORM's CARD OF 'tumblaw2.RanksBringPoints'. -/
def ranksBringPointsUptoCard : Claim7 := { stood := { row := ranksBringPointsUptoRow, standIns := [], harness := (true, "6e904732542ab8d6d674cc92efe34d334a564969b20ce0c2aff37ffc0e027e62"), looks := false }, kinds := [], alts := [], laidByText := true, laidKinds := [.data, .pinned], laidTests := true, laidLooks := .later }
def RanksBringPointsUptoCardSaid : Prop := Claim7.holds Tryz.pinned (.plain (OpenSpec.upto ranksBringPointsSpec)) ranksBringPointsUptoCard
end Rows
end Go.Proofs.YtmdjmbbmlohnlaaGreatDoor
