/-
  DERIVED. GIVEN WITH THE SEED: THE CARDS: each row of YtjlgddkenkpbpaaGreatDoorRows.lean that lists a variable, with what it lists TIED to the program's text (the seventh form; the later family's looks); each row that meets fmt, with fmt's text TOLD by the authors' own Lean function (tested against real Go, not proved from fmt's source: count such statements apart). THE CARD IS WHAT COUNTS. Prove the row's statement (the work); the ties are given (YtjlgddkenkpbpaaGreatDoorTie.lean); close each card by the builder's one call (the guide's Derived/Test/ToyasCard.lean, 'card_holds'). Laid BY PROGRAM, IN A SANDBOX (cutbox-door.mjs). By AI agents, Wed Nov 11 2026. No macro, syntax, notation, axiom, sorry.
-/
import Derived.Test.YtjlgddkenkpbpaaGreatDoorRows
import GoSem.ClaimSeven
namespace Go.Proofs.YtjlgddkenkpbpaaGreatDoor
namespace Rows

/-- THE TIED CARD OF 'tumblaw2.RacesRanked'. -/
def racesRankedCard : Claim7 := { stood := { row := racesRankedRow, standIns := [], harness := (true, "3a4aabe37887f3379c03faadcf393cbe6d39da73d6e1162d2d2db06f6249ea02"), looks := false }, kinds := [], alts := [], laidByText := true, laidKinds := [.data, .pinned], laidTests := true, laidLooks := .later }
def RacesRankedCardSaid : Prop := Claim7.holds Tryz.pinned (.plain (OpenSpec.ofChange racesRankedSpec)) racesRankedCard

/-- THE SECOND FORM's CARD OF 'tumblaw2.RacesRanked'. -/
def racesRankedUptoCard : Claim7 := { stood := { row := racesRankedUptoRow, standIns := [], harness := (true, "3a4aabe37887f3379c03faadcf393cbe6d39da73d6e1162d2d2db06f6249ea02"), looks := false }, kinds := [], alts := [], laidByText := true, laidKinds := [.data, .pinned], laidTests := true, laidLooks := .later }
def RacesRankedUptoCardSaid : Prop := Claim7.holds Tryz.pinned (.plain (OpenSpec.upto racesRankedSpec)) racesRankedUptoCard
end Rows
end Go.Proofs.YtjlgddkenkpbpaaGreatDoor
