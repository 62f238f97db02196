/-
  DERIVED. GIVEN WITH THE SEED: THE CARDS: each row of YtahhldfcmbgfpaaGreatDoorRows.lean that lists a variable, with what it lists TIED to the program's text (the seventh form; the later family's looks); each row that meets fmt, with fmt's text TOLD by the authors' own Lean function (tested against real Go, not proved from fmt's source: count such statements apart). THE CARD IS WHAT COUNTS. Prove the row's statement (the work); the ties are given (YtahhldfcmbgfpaaGreatDoorTie.lean); close each card by the builder's one call (the guide's Derived/Test/ToyasCard.lean, 'card_holds'). Laid BY PROGRAM, IN A SANDBOX (cutbox-door.mjs). By AI agents, Wed Nov 11 2026. No macro, syntax, notation, axiom, sorry.
-/
import Derived.Test.YtahhldfcmbgfpaaGreatDoorRows
import GoSem.ClaimSeven
namespace Go.Proofs.YtahhldfcmbgfpaaGreatDoor
namespace Rows

/-- THE TIED CARD OF 'tumbkeep2.BetterWouldBe'. -/
def betterWouldBeCard : Claim7 := { stood := { row := betterWouldBeRow, standIns := [], harness := (true, "ca83ba5110393d277b360186178f07529579658cd1e0752a42cdf9e6ab5ab821"), looks := false }, kinds := [], alts := [], laidByText := true, laidKinds := [.data, .pinned], laidTests := true, laidLooks := .later }
def BetterWouldBeCardSaid : Prop := Claim7.holds Tryz.pinned (.plain (OpenSpec.ofChange betterWouldBeSpec)) betterWouldBeCard

/-- THE SECOND FORM's CARD OF 'tumbkeep2.BetterWouldBe'. -/
def betterWouldBeUptoCard : Claim7 := { stood := { row := betterWouldBeUptoRow, standIns := [], harness := (true, "ca83ba5110393d277b360186178f07529579658cd1e0752a42cdf9e6ab5ab821"), looks := false }, kinds := [], alts := [], laidByText := true, laidKinds := [.data, .pinned], laidTests := true, laidLooks := .later }
def BetterWouldBeUptoCardSaid : Prop := Claim7.holds Tryz.pinned (.plain (OpenSpec.upto betterWouldBeSpec)) betterWouldBeUptoCard
end Rows
end Go.Proofs.YtahhldfcmbgfpaaGreatDoor
