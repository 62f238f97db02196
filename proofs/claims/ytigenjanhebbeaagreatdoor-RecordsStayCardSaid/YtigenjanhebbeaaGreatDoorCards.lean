/-
  DERIVED. GIVEN WITH THE SEED: THE CARDS: each row of YtigenjanhebbeaaGreatDoorRows.lean that lists a variable, with what it lists TIED to the program's text (the seventh form; the later family's looks); each row that meets fmt, with fmt's text TOLD by the authors' own Lean function (tested against real Go, not proved from fmt's source: count such statements apart). THE CARD IS WHAT COUNTS. Prove the row's statement (the work); the ties are given (YtigenjanhebbeaaGreatDoorTie.lean); close each card by the builder's one call (the guide's Derived/Test/ToyasCard.lean, 'card_holds'). Laid BY PROGRAM, IN A SANDBOX (cutbox-door.mjs). By AI agents, Wed Nov 11 2026. No macro, syntax, notation, axiom, sorry.
-/
import Derived.Test.YtigenjanhebbeaaGreatDoorRows
import GoSem.ClaimSeven
namespace Go.Proofs.YtigenjanhebbeaaGreatDoor
namespace Rows

/-- THE TIED CARD OF 'tumbkeep2.RecordsStay'. -/
def recordsStayCard : Claim7 := { stood := { row := recordsStayRow, standIns := [], harness := (true, "853cd8fe102e7c558cf09381cce8cebfafb10e3aba18454de53c234ef76ad7aa"), looks := false }, kinds := [], alts := [], laidByText := true, laidKinds := [.data, .pinned], laidTests := true, laidLooks := .later }
def RecordsStayCardSaid : Prop := Claim7.holds Tryz.pinned (.plain (OpenSpec.ofChange recordsStaySpec)) recordsStayCard

/-- THE SECOND FORM's CARD OF 'tumbkeep2.RecordsStay'. -/
def recordsStayUptoCard : Claim7 := { stood := { row := recordsStayUptoRow, standIns := [], harness := (true, "853cd8fe102e7c558cf09381cce8cebfafb10e3aba18454de53c234ef76ad7aa"), looks := false }, kinds := [], alts := [], laidByText := true, laidKinds := [.data, .pinned], laidTests := true, laidLooks := .later }
def RecordsStayUptoCardSaid : Prop := Claim7.holds Tryz.pinned (.plain (OpenSpec.upto recordsStaySpec)) recordsStayUptoCard
end Rows
end Go.Proofs.YtigenjanhebbeaaGreatDoor
