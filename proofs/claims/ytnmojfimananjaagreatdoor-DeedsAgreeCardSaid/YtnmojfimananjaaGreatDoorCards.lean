/-
  DERIVED. GIVEN WITH THE SEED: THE CARDS: each row of YtnmojfimananjaaGreatDoorRows.lean that lists a variable, with what it lists TIED to the program's text (the seventh form; the later family's looks); each row that meets fmt, with fmt's text TOLD by the authors' own Lean function (tested against real Go, not proved from fmt's source: count such statements apart). THE CARD IS WHAT COUNTS. Prove the row's statement (the work); the ties are given (YtnmojfimananjaaGreatDoorTie.lean); close each card by the builder's one call (the guide's Derived/Test/ToyasCard.lean, 'card_holds'). Laid BY PROGRAM, IN A SANDBOX (cutbox-door.mjs). By AI agents, Wed Nov 11 2026. No macro, syntax, notation, axiom, sorry.
-/
import Derived.Test.YtnmojfimananjaaGreatDoorRows
import GoSem.ClaimSeven
namespace Go.Proofs.YtnmojfimananjaaGreatDoor
namespace Rows

/-- THE TIED CARD OF 'tumbkeep2.DeedsAgree'. -/
def deedsAgreeCard : Claim7 := { stood := { row := deedsAgreeRow, standIns := [], harness := (true, "53ff62f3b07aa54715054edc245d239c56661873010a1211cba2867e951ac00f"), looks := true }, kinds := [], alts := [], laidByText := true, laidKinds := [.data, .data, .data, .data, .sentinel, .sentinel, .pinned], laidTests := true, laidLooks := .later }
def DeedsAgreeCardSaid : Prop := Claim7.holds Tryz.pinned (.plain (OpenSpec.ofChange deedsAgreeSpec)) deedsAgreeCard

/-- THE SECOND FORM's CARD OF 'tumbkeep2.DeedsAgree'. -/
def deedsAgreeUptoCard : Claim7 := { stood := { row := deedsAgreeUptoRow, standIns := [], harness := (true, "53ff62f3b07aa54715054edc245d239c56661873010a1211cba2867e951ac00f"), looks := true }, kinds := [], alts := [], laidByText := true, laidKinds := [.data, .data, .data, .data, .sentinel, .sentinel, .pinned], laidTests := true, laidLooks := .later }
def DeedsAgreeUptoCardSaid : Prop := Claim7.holds Tryz.pinned (.plain (OpenSpec.upto deedsAgreeSpec)) deedsAgreeUptoCard
end Rows
end Go.Proofs.YtnmojfimananjaaGreatDoor
