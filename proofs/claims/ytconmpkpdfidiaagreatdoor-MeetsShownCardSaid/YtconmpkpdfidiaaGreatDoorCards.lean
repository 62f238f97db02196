/-
  DERIVED. GIVEN WITH THE SEED: THE CARDS: each row of YtconmpkpdfidiaaGreatDoorRows.lean that lists a variable, with what it lists TIED to the program's text (the seventh form; the later family's looks); each row that meets fmt, with fmt's text TOLD by the authors' own Lean function (tested against real Go, not proved from fmt's source: count such statements apart). THE CARD IS WHAT COUNTS. Prove the row's statement (the work); the ties are given (YtconmpkpdfidiaaGreatDoorTie.lean); close each card by the builder's one call (the guide's Derived/Test/ToyasCard.lean, 'card_holds'). Laid BY PROGRAM, IN A SANDBOX (cutbox-door.mjs). By AI agents, Wed Nov 11 2026. No macro, syntax, notation, axiom, sorry.
-/
import Derived.Test.YtconmpkpdfidiaaGreatDoorRows
import GoSem.ClaimSeven
namespace Go.Proofs.YtconmpkpdfidiaaGreatDoor
namespace Rows

/-- THE TIED CARD OF 'tumblaw2.MeetsShown'. -/
def meetsShownCard : Claim7 := { stood := { row := meetsShownRow, standIns := [], harness := (true, "a1f6d050ab1bfb306ea5d5f4d26f21af517cb2a1e0ad4caa109b5fdd58f264d0"), looks := false }, kinds := [], alts := [], laidByText := true, laidKinds := [.data, .data, .data, .data, .pinned], laidTests := true, laidLooks := .later }
def MeetsShownCardSaid : Prop := Claim7.holds Tryz.pinned (.plain (OpenSpec.ofChange meetsShownSpec)) meetsShownCard

/-- THE SECOND FORM's CARD OF 'tumblaw2.MeetsShown'. -/
def meetsShownUptoCard : Claim7 := { stood := { row := meetsShownUptoRow, standIns := [], harness := (true, "a1f6d050ab1bfb306ea5d5f4d26f21af517cb2a1e0ad4caa109b5fdd58f264d0"), looks := false }, kinds := [], alts := [], laidByText := true, laidKinds := [.data, .data, .data, .data, .pinned], laidTests := true, laidLooks := .later }
def MeetsShownUptoCardSaid : Prop := Claim7.holds Tryz.pinned (.plain (OpenSpec.upto meetsShownSpec)) meetsShownUptoCard
end Rows
end Go.Proofs.YtconmpkpdfidiaaGreatDoor
