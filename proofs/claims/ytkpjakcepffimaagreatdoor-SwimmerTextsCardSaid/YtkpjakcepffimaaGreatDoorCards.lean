/-
  DERIVED. GIVEN WITH THE SEED: THE CARDS: each row of YtkpjakcepffimaaGreatDoorRows.lean that lists a variable, with what it lists TIED to the program's text (the seventh form; the later family's looks); each row that meets fmt, with fmt's text TOLD by the authors' own Lean function (tested against real Go, not proved from fmt's source: count such statements apart). THE CARD IS WHAT COUNTS. Prove the row's statement (the work); the ties are given (YtkpjakcepffimaaGreatDoorTie.lean); close each card by the builder's one call (the guide's Derived/Test/ToyasCard.lean, 'card_holds'). Laid BY PROGRAM, IN A SANDBOX (cutbox-door.mjs). By AI agents, Wed Nov 11 2026. No macro, syntax, notation, axiom, sorry.
-/
import Derived.Test.YtkpjakcepffimaaGreatDoorRows
import GoSem.ClaimSeven
namespace Go.Proofs.YtkpjakcepffimaaGreatDoor
namespace Rows

/-- THE TIED CARD OF 'tumblaw2.SwimmerTexts'. -/
def swimmerTextsCard : Claim7 := { stood := { row := swimmerTextsRow, standIns := [], harness := (true, "5b6bd042a49bf01efb72c94a3b2d8356324dc99a287e40995fdd984383c42f24"), looks := true }, kinds := [], alts := [], laidByText := true, laidKinds := [.data, .data, .data, .data, .sentinel, .sentinel, .pinned], laidTests := true, laidLooks := .later }
def SwimmerTextsCardSaid : Prop := Claim7.holds Tryz.pinned (.plain (OpenSpec.ofChange swimmerTextsSpec)) swimmerTextsCard

/-- THE SECOND FORM's CARD OF 'tumblaw2.SwimmerTexts'. -/
def swimmerTextsUptoCard : Claim7 := { stood := { row := swimmerTextsUptoRow, standIns := [], harness := (true, "5b6bd042a49bf01efb72c94a3b2d8356324dc99a287e40995fdd984383c42f24"), looks := true }, kinds := [], alts := [], laidByText := true, laidKinds := [.data, .data, .data, .data, .sentinel, .sentinel, .pinned], laidTests := true, laidLooks := .later }
def SwimmerTextsUptoCardSaid : Prop := Claim7.holds Tryz.pinned (.plain (OpenSpec.upto swimmerTextsSpec)) swimmerTextsUptoCard
end Rows
end Go.Proofs.YtkpjakcepffimaaGreatDoor
