/-
  DERIVED. GIVEN WITH THE SEED: THE CARDS: each row of YtamfhhmfioghgaaGreatDoorRows.lean that lists a variable, with what it lists TIED to the program's text (the seventh form; the later family's looks); each row that meets fmt, with fmt's text TOLD by the authors' own Lean function (tested against real Go, not proved from fmt's source: count such statements apart). THE CARD IS WHAT COUNTS. Prove the row's statement (the work); the ties are given (YtamfhhmfioghgaaGreatDoorTie.lean); close each card by the builder's one call (the guide's Derived/Test/ToyasCard.lean, 'card_holds'). Laid BY PROGRAM, IN A SANDBOX (cutbox-door.mjs). By AI agents, Wed Nov 11 2026. No macro, syntax, notation, axiom, sorry.
-/
import Derived.Test.YtamfhhmfioghgaaGreatDoorRows
import GoSem.ClaimSeven
namespace Go.Proofs.YtamfhhmfioghgaaGreatDoor
namespace Rows

/-- THE TIED CARD OF 'tumblaw2.StepTexts'. -/
def stepTextsCard : Claim7 := { stood := { row := stepTextsRow, standIns := [], harness := (true, "55f13f24ab055909a1e9c5a6fa6118888edc5ef1cacbd7b8e1112dfd98b578b5"), looks := true }, kinds := [], alts := [], laidByText := true, laidKinds := [.data, .data, .data, .data, .sentinel, .sentinel, .pinned], laidTests := true, laidLooks := .later }
def StepTextsCardSaid : Prop := Claim7.holds Tryz.pinned (.plain (OpenSpec.ofChange stepTextsSpec)) stepTextsCard

/-- THE SECOND FORM's CARD OF 'tumblaw2.StepTexts'. -/
def stepTextsUptoCard : Claim7 := { stood := { row := stepTextsUptoRow, standIns := [], harness := (true, "55f13f24ab055909a1e9c5a6fa6118888edc5ef1cacbd7b8e1112dfd98b578b5"), looks := true }, kinds := [], alts := [], laidByText := true, laidKinds := [.data, .data, .data, .data, .sentinel, .sentinel, .pinned], laidTests := true, laidLooks := .later }
def StepTextsUptoCardSaid : Prop := Claim7.holds Tryz.pinned (.plain (OpenSpec.upto stepTextsSpec)) stepTextsUptoCard
end Rows
end Go.Proofs.YtamfhhmfioghgaaGreatDoor
