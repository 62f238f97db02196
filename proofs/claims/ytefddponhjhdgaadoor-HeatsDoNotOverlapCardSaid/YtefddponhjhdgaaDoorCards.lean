/-
  DERIVED. GIVEN WITH THE SEED: THE CARDS: each row of YtefddponhjhdgaaDoorRows.lean that lists a variable, with what it lists TIED to the program's text (the seventh form; the later family's looks); each row that meets fmt, with fmt's text TOLD by the authors' own Lean function (tested against real Go, not proved from fmt's source: count such statements apart). THE CARD IS WHAT COUNTS. Prove the row's statement (the work); the ties are given (YtefddponhjhdgaaDoorTie.lean); close each card by the builder's one call (the guide's Derived/Test/ToyasCard.lean, 'card_holds'). Laid BY PROGRAM, IN A SANDBOX (cutbox-door.mjs). By AI agents, Wed Nov 11 2026. No macro, syntax, notation, axiom, sorry.
-/
import Derived.Test.YtefddponhjhdgaaDoorRows
import GoSem.ClaimSeven
namespace Go.Proofs.YtefddponhjhdgaaDoor
namespace Rows

/-- THE TIED CARD OF 'tumbkeep2.HeatsDoNotOverlap'. -/
def heatsDoNotOverlapCard : Claim7 := { stood := { row := heatsDoNotOverlapRow, standIns := [], harness := (true, "fa1632cf20dda69485e2ffcdef4192c9c3ab95474be87106a0d341a42d27dc75"), looks := false }, kinds := [], alts := [], laidByText := true, laidKinds := [.data, .pinned], laidTests := true, laidLooks := .later }
def HeatsDoNotOverlapCardSaid : Prop := Claim7.holds Tryd.pinned (.plain (OpenSpec.ofChange heatsDoNotOverlapSpec)) heatsDoNotOverlapCard

/-- THE SECOND FORM's CARD OF 'tumbkeep2.HeatsDoNotOverlap'. -/
def heatsDoNotOverlapUptoCard : Claim7 := { stood := { row := heatsDoNotOverlapUptoRow, standIns := [], harness := (true, "fa1632cf20dda69485e2ffcdef4192c9c3ab95474be87106a0d341a42d27dc75"), looks := false }, kinds := [], alts := [], laidByText := true, laidKinds := [.data, .pinned], laidTests := true, laidLooks := .later }
def HeatsDoNotOverlapUptoCardSaid : Prop := Claim7.holds Tryd.pinned (.plain (OpenSpec.upto heatsDoNotOverlapSpec)) heatsDoNotOverlapUptoCard
end Rows
end Go.Proofs.YtefddponhjhdgaaDoor
