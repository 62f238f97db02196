/-
  DERIVED. GIVEN WITH THE SEED: THE CARDS: each row of YtmaoleaghiilcaaGreatDoorRows.lean that lists a variable, with what it lists TIED to the program's text (the seventh form; the later family's looks); each row that meets fmt, with fmt's text TOLD by the authors' own Lean function (tested against real Go, not proved from fmt's source: count such statements apart). THE CARD IS WHAT COUNTS. Prove the row's statement (the work); the ties are given (YtmaoleaghiilcaaGreatDoorTie.lean); close each card by the builder's one call (the guide's Derived/Test/ToyasCard.lean, 'card_holds'). Laid BY PROGRAM, IN A SANDBOX (cutbox-door.mjs). By AI agents, Wed Nov 11 2026. No macro, syntax, notation, axiom, sorry.
-/
import Derived.Test.YtmaoleaghiilcaaGreatDoorRows
import GoSem.ClaimSeven
namespace Go.Proofs.YtmaoleaghiilcaaGreatDoor
namespace Rows

/-- THE TIED CARD OF 'tumblaw2.ItemTexts'. -/
def itemTextsCard : Claim7 := { stood := { row := itemTextsRow, standIns := [], harness := (true, "a7dc3758a96c550b13823527acb31fb24259c0144ea7ffdc8587105ac659cc98"), looks := true }, kinds := [], alts := [], laidByText := true, laidKinds := [.data, .data, .data, .data, .sentinel, .sentinel, .pinned], laidTests := true, laidLooks := .later }
def ItemTextsCardSaid : Prop := Claim7.holds Tryz.pinned (.plain (OpenSpec.ofChange itemTextsSpec)) itemTextsCard

/-- THE SECOND FORM's CARD OF 'tumblaw2.ItemTexts'. -/
def itemTextsUptoCard : Claim7 := { stood := { row := itemTextsUptoRow, standIns := [], harness := (true, "a7dc3758a96c550b13823527acb31fb24259c0144ea7ffdc8587105ac659cc98"), looks := true }, kinds := [], alts := [], laidByText := true, laidKinds := [.data, .data, .data, .data, .sentinel, .sentinel, .pinned], laidTests := true, laidLooks := .later }
def ItemTextsUptoCardSaid : Prop := Claim7.holds Tryz.pinned (.plain (OpenSpec.upto itemTextsSpec)) itemTextsUptoCard
end Rows
end Go.Proofs.YtmaoleaghiilcaaGreatDoor
