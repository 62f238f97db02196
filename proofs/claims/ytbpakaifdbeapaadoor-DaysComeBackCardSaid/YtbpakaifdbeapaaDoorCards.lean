/-
  DERIVED. GIVEN WITH THE SEED: THE CARDS: each row of YtbpakaifdbeapaaDoorRows.lean that lists a variable, with what it lists TIED to the program's text (the seventh form; the later family's looks); each row that meets fmt, with fmt's text TOLD by the authors' own Lean function (tested against real Go, not proved from fmt's source: count such statements apart). THE CARD IS WHAT COUNTS. Prove the row's statement (the work); the ties are given (YtbpakaifdbeapaaDoorTie.lean); close each card by the builder's one call (the guide's Derived/Test/ToyasCard.lean, 'card_holds'). Laid BY PROGRAM, IN A SANDBOX (cutbox-door.mjs). By AI agents, Wed Nov 11 2026. No macro, syntax, notation, axiom, sorry.
-/
import Derived.Test.YtbpakaifdbeapaaDoorRows
import GoSem.ClaimSeven
namespace Go.Proofs.YtbpakaifdbeapaaDoor
namespace Rows

/-- THE TIED CARD OF 'tumbkeep2.DaysComeBack'. -/
def daysComeBackCard : Claim7 := { stood := { row := daysComeBackRow, standIns := [], harness := (true, "f4cdec2253848925a03d6eb1642775503f9662181450a16aaa66b3b8dfecc510"), looks := false }, kinds := [], alts := [], laidByText := true, laidKinds := [.data, .pinned], laidTests := true, laidLooks := .later }
def DaysComeBackCardSaid : Prop := Claim7.holds Tryd.pinned (.plain (OpenSpec.ofChange daysComeBackSpec)) daysComeBackCard

/-- THE SECOND FORM's CARD OF 'tumbkeep2.DaysComeBack'. -/
def daysComeBackUptoCard : Claim7 := { stood := { row := daysComeBackUptoRow, standIns := [], harness := (true, "f4cdec2253848925a03d6eb1642775503f9662181450a16aaa66b3b8dfecc510"), looks := false }, kinds := [], alts := [], laidByText := true, laidKinds := [.data, .pinned], laidTests := true, laidLooks := .later }
def DaysComeBackUptoCardSaid : Prop := Claim7.holds Tryd.pinned (.plain (OpenSpec.upto daysComeBackSpec)) daysComeBackUptoCard
end Rows
end Go.Proofs.YtbpakaifdbeapaaDoor
