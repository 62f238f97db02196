/-
  DERIVED. GIVEN WITH THE SEED: THE CARDS: each row of YtcnneeipmadakaaGreatDoorRows.lean that lists a variable, with what it lists TIED to the program's text (the seventh form; the later family's looks); each row that meets fmt, with fmt's text TOLD by the authors' own Lean function (tested against real Go, not proved from fmt's source: count such statements apart). THE CARD IS WHAT COUNTS. Prove the row's statement (the work); the ties are given (YtcnneeipmadakaaGreatDoorTie.lean); close each card by the builder's one call (the guide's Derived/Test/ToyasCard.lean, 'card_holds'). Laid BY PROGRAM, IN A SANDBOX (cutbox-door.mjs). By AI agents, Wed Nov 11 2026. No macro, syntax, notation, axiom, sorry.
-/
import Derived.Test.YtcnneeipmadakaaGreatDoorRows
import GoSem.ClaimSeven
namespace Go.Proofs.YtcnneeipmadakaaGreatDoor
namespace Rows

/-- THE TIED CARD OF 'tumblaw2.ScoredTexts'. -/
def scoredTextsCard : Claim7 := { stood := { row := scoredTextsRow, standIns := [], harness := (true, "50018741ae08a857f1e1092df8aef7c594b99c3a0f2673a55fc0b1f0b2829042"), looks := true }, kinds := [], alts := [], laidByText := true, laidKinds := [.data, .data, .data, .data, .sentinel, .sentinel, .pinned], laidTests := true, laidLooks := .later }
def ScoredTextsCardSaid : Prop := Claim7.holds Tryz.pinned (.plain (OpenSpec.ofChange scoredTextsSpec)) scoredTextsCard

/-- THE SECOND FORM's CARD OF 'tumblaw2.ScoredTexts'. -/
def scoredTextsUptoCard : Claim7 := { stood := { row := scoredTextsUptoRow, standIns := [], harness := (true, "50018741ae08a857f1e1092df8aef7c594b99c3a0f2673a55fc0b1f0b2829042"), looks := true }, kinds := [], alts := [], laidByText := true, laidKinds := [.data, .data, .data, .data, .sentinel, .sentinel, .pinned], laidTests := true, laidLooks := .later }
def ScoredTextsUptoCardSaid : Prop := Claim7.holds Tryz.pinned (.plain (OpenSpec.upto scoredTextsSpec)) scoredTextsUptoCard
end Rows
end Go.Proofs.YtcnneeipmadakaaGreatDoor
