/-
  DERIVED. GIVEN WITH THE SEED: THE CARDS: each row of YthlielagemkjcaaGreatDoorRows.lean that lists a variable, with what it lists TIED to the program's text (the seventh form; the later family's looks); each row that meets fmt, with fmt's text TOLD by the authors' own Lean function (tested against real Go, not proved from fmt's source: count such statements apart). THE CARD IS WHAT COUNTS. Prove the row's statement (the work); the ties are given (YthlielagemkjcaaGreatDoorTie.lean); close each card by the builder's one call (the guide's Derived/Test/ToyasCard.lean, 'card_holds'). Laid BY PROGRAM, IN A SANDBOX (cutbox-door.mjs). By AI agents, Wed Nov 11 2026. No macro, syntax, notation, axiom, sorry.
-/
import Derived.Test.YthlielagemkjcaaGreatDoorRows
import GoSem.ClaimSeven
namespace Go.Proofs.YthlielagemkjcaaGreatDoor
namespace Rows

/-- THE TIED CARD OF 'tumblaw2.MeetsAnswer'. -/
def meetsAnswerCard : Claim7 := { stood := { row := meetsAnswerRow, standIns := [], harness := (true, "51fa3ddf207376a5e8f6a8beff998658b355b370b55b1dcf3fe687b687e30ad1"), looks := true }, kinds := [], alts := [], laidByText := true, laidKinds := [.data, .data, .data, .data, .sentinel, .sentinel, .pinned], laidTests := true, laidLooks := .later }
def MeetsAnswerCardSaid : Prop := Claim7.holds Tryz.pinned (.plain (OpenSpec.ofChange meetsAnswerSpec)) meetsAnswerCard

/-- THE SECOND FORM's CARD OF 'tumblaw2.MeetsAnswer'. -/
def meetsAnswerUptoCard : Claim7 := { stood := { row := meetsAnswerUptoRow, standIns := [], harness := (true, "51fa3ddf207376a5e8f6a8beff998658b355b370b55b1dcf3fe687b687e30ad1"), looks := true }, kinds := [], alts := [], laidByText := true, laidKinds := [.data, .data, .data, .data, .sentinel, .sentinel, .pinned], laidTests := true, laidLooks := .later }
def MeetsAnswerUptoCardSaid : Prop := Claim7.holds Tryz.pinned (.plain (OpenSpec.upto meetsAnswerSpec)) meetsAnswerUptoCard
end Rows
end Go.Proofs.YthlielagemkjcaaGreatDoor
