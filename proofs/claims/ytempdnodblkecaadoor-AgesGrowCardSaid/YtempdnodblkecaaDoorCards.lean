/-
  DERIVED. GIVEN WITH THE SEED: THE CARDS: each row of YtempdnodblkecaaDoorRows.lean that lists a variable, with what it lists TIED to the program's text (the seventh form; the later family's looks); each row that meets fmt, with fmt's text TOLD by the authors' own Lean function (tested against real Go, not proved from fmt's source: count such statements apart). THE CARD IS WHAT COUNTS. Prove the row's statement (the work); the ties are given (YtempdnodblkecaaDoorTie.lean); close each card by the builder's one call (the guide's Derived/Test/ToyasCard.lean, 'card_holds'). Laid BY PROGRAM, IN A SANDBOX (cutbox-door.mjs). By AI agents, Wed Nov 11 2026. No macro, syntax, notation, axiom, sorry.
-/
import Derived.Test.YtempdnodblkecaaDoorRows
import GoSem.ClaimSeven
namespace Go.Proofs.YtempdnodblkecaaDoor
namespace Rows

/-- THE TIED CARD OF 'tumbkeep2.AgesGrow'. -/
def agesGrowCard : Claim7 := { stood := { row := agesGrowRow, standIns := [], harness := (true, "51d6c6fc6b8b1c9d35dd73169c1026d2970e53fa99d971b007277323fc1cf1f2"), looks := false }, kinds := [], alts := [], laidByText := true, laidKinds := [.data, .pinned], laidTests := true, laidLooks := .later }
def AgesGrowCardSaid : Prop := Claim7.holds Tryd.pinned (.plain (OpenSpec.ofChange agesGrowSpec)) agesGrowCard

/-- THE SECOND FORM's CARD OF 'tumbkeep2.AgesGrow'. -/
def agesGrowUptoCard : Claim7 := { stood := { row := agesGrowUptoRow, standIns := [], harness := (true, "51d6c6fc6b8b1c9d35dd73169c1026d2970e53fa99d971b007277323fc1cf1f2"), looks := false }, kinds := [], alts := [], laidByText := true, laidKinds := [.data, .pinned], laidTests := true, laidLooks := .later }
def AgesGrowUptoCardSaid : Prop := Claim7.holds Tryd.pinned (.plain (OpenSpec.upto agesGrowSpec)) agesGrowUptoCard
end Rows
end Go.Proofs.YtempdnodblkecaaDoor
