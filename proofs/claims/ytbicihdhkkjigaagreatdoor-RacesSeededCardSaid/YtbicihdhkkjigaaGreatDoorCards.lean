/-
  DERIVED. GIVEN WITH THE SEED: THE CARDS: each row of YtbicihdhkkjigaaGreatDoorRows.lean that lists a variable, with what it lists TIED to the program's text (the seventh form; the later family's looks); each row that meets fmt, with fmt's text TOLD by the authors' own Lean function (tested against real Go, not proved from fmt's source: count such statements apart). THE CARD IS WHAT COUNTS. Prove the row's statement (the work); the ties are given (YtbicihdhkkjigaaGreatDoorTie.lean); close each card by the builder's one call (the guide's Derived/Test/ToyasCard.lean, 'card_holds'). Laid BY PROGRAM, IN A SANDBOX (cutbox-door.mjs). By AI agents, Wed Nov 11 2026. No macro, syntax, notation, axiom, sorry.
-/
import Derived.Test.YtbicihdhkkjigaaGreatDoorRows
import GoSem.ClaimSeven
namespace Go.Proofs.YtbicihdhkkjigaaGreatDoor
namespace Rows

/-- THE TIED CARD OF 'tumblaw2.RacesSeeded'. -/
def racesSeededCard : Claim7 := { stood := { row := racesSeededRow, standIns := [], harness := (true, "f3c6479a0ed989c107459163a86764db49e59194ce34fc12764a3f4513358f2b"), looks := false }, kinds := [], alts := [], laidByText := true, laidKinds := [.data, .pinned], laidTests := true, laidLooks := .later }
def RacesSeededCardSaid : Prop := Claim7.holds Tryz.pinned (.plain (OpenSpec.ofChange racesSeededSpec)) racesSeededCard

/-- THE SECOND FORM's CARD OF 'tumblaw2.RacesSeeded'. -/
def racesSeededUptoCard : Claim7 := { stood := { row := racesSeededUptoRow, standIns := [], harness := (true, "f3c6479a0ed989c107459163a86764db49e59194ce34fc12764a3f4513358f2b"), looks := false }, kinds := [], alts := [], laidByText := true, laidKinds := [.data, .pinned], laidTests := true, laidLooks := .later }
def RacesSeededUptoCardSaid : Prop := Claim7.holds Tryz.pinned (.plain (OpenSpec.upto racesSeededSpec)) racesSeededUptoCard
end Rows
end Go.Proofs.YtbicihdhkkjigaaGreatDoor
