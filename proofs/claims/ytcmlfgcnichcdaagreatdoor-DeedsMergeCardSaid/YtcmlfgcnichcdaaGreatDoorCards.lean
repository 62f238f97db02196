/-
  DERIVED. GIVEN WITH THE SEED: THE CARDS: each row of YtcmlfgcnichcdaaGreatDoorRows.lean that lists a variable, with what it lists TIED to the program's text (the seventh form; the later family's looks); each row that meets fmt, with fmt's text TOLD by the authors' own Lean function (tested against real Go, not proved from fmt's source: count such statements apart). THE CARD IS WHAT COUNTS. Prove the row's statement (the work); the ties are given (YtcmlfgcnichcdaaGreatDoorTie.lean); close each card by the builder's one call (the guide's Derived/Test/ToyasCard.lean, 'card_holds'). Laid BY PROGRAM, IN A SANDBOX (cutbox-door.mjs). By AI agents, Wed Nov 11 2026. No macro, syntax, notation, axiom, sorry.
-/
import Derived.Test.YtcmlfgcnichcdaaGreatDoorRows
import GoSem.ClaimSeven
namespace Go.Proofs.YtcmlfgcnichcdaaGreatDoor
namespace Rows

/-- THE TIED CARD OF 'tumblaw2.DeedsMerge'. -/
def deedsMergeCard : Claim7 := { stood := { row := deedsMergeRow, standIns := [], harness := (true, "9a4b141e3391b8e85c8b25c31e3e6648358539f0fab2f31ad4ed42748fc2d490"), looks := false }, kinds := [], alts := [], laidByText := true, laidKinds := [.data, .pinned], laidTests := true, laidLooks := .later }
def DeedsMergeCardSaid : Prop := Claim7.holds Tryz.pinned (.plain (OpenSpec.ofChange deedsMergeSpec)) deedsMergeCard

/-- THE SECOND FORM's CARD OF 'tumblaw2.DeedsMerge'. -/
def deedsMergeUptoCard : Claim7 := { stood := { row := deedsMergeUptoRow, standIns := [], harness := (true, "9a4b141e3391b8e85c8b25c31e3e6648358539f0fab2f31ad4ed42748fc2d490"), looks := false }, kinds := [], alts := [], laidByText := true, laidKinds := [.data, .pinned], laidTests := true, laidLooks := .later }
def DeedsMergeUptoCardSaid : Prop := Claim7.holds Tryz.pinned (.plain (OpenSpec.upto deedsMergeSpec)) deedsMergeUptoCard
end Rows
end Go.Proofs.YtcmlfgcnichcdaaGreatDoor
