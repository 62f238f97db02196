/-
  DERIVED. GIVEN WITH THE SEED: THE CARDS: each row of YtacfgpcommiihaaGreatDoorRows.lean that lists a variable, with what it lists TIED to the program's text (the seventh form; the later family's looks); each row that meets fmt, with fmt's text TOLD by the authors' own Lean function (tested against real Go, not proved from fmt's source: count such statements apart). THE CARD IS WHAT COUNTS. Prove the row's statement (the work); the ties are given (YtacfgpcommiihaaGreatDoorTie.lean); close each card by the builder's one call (the guide's Derived/Test/ToyasCard.lean, 'card_holds'). Laid BY PROGRAM, IN A SANDBOX (cutbox-door.mjs). By AI agents, Wed Nov 11 2026. No macro, syntax, notation, axiom, sorry.
-/
import Derived.Test.YtacfgpcommiihaaGreatDoorRows
import GoSem.ClaimSeven
namespace Go.Proofs.YtacfgpcommiihaaGreatDoor
namespace Rows

/-- THE TIED CARD OF 'tumblaw2.EntriesCount'. -/
def entriesCountCard : Claim7 := { stood := { row := entriesCountRow, standIns := [], harness := (true, "d88e4af042e49f0c1ec3534e67b79d616fdc0d030d914ad0792410af5d2980de"), looks := false }, kinds := [], alts := [], laidByText := true, laidKinds := [.data, .pinned], laidTests := true, laidLooks := .later }
def EntriesCountCardSaid : Prop := Claim7.holds Tryz.pinned (.plain (OpenSpec.ofChange entriesCountSpec)) entriesCountCard

/-- THE SECOND FORM's CARD OF 'tumblaw2.EntriesCount'. -/
def entriesCountUptoCard : Claim7 := { stood := { row := entriesCountUptoRow, standIns := [], harness := (true, "d88e4af042e49f0c1ec3534e67b79d616fdc0d030d914ad0792410af5d2980de"), looks := false }, kinds := [], alts := [], laidByText := true, laidKinds := [.data, .pinned], laidTests := true, laidLooks := .later }
def EntriesCountUptoCardSaid : Prop := Claim7.holds Tryz.pinned (.plain (OpenSpec.upto entriesCountSpec)) entriesCountUptoCard
end Rows
end Go.Proofs.YtacfgpcommiihaaGreatDoor
