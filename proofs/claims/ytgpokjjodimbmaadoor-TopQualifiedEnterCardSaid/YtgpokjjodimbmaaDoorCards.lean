/-
  DERIVED. GIVEN WITH THE SEED: THE CARDS: each row of YtgpokjjodimbmaaDoorRows.lean that lists a variable, with what it lists TIED to the program's text (the seventh form; the later family's looks); each row that meets fmt, with fmt's text TOLD by the authors' own Lean function (tested against real Go, not proved from fmt's source: count such statements apart). THE CARD IS WHAT COUNTS. Prove the row's statement (the work); the ties are given (YtgpokjjodimbmaaDoorTie.lean); close each card by the builder's one call (the guide's Derived/Test/ToyasCard.lean, 'card_holds'). Laid BY PROGRAM, IN A SANDBOX (cutbox-door.mjs). By AI agents, Wed Nov 11 2026. No macro, syntax, notation, axiom, sorry.
-/
import Derived.Test.YtgpokjjodimbmaaDoorRows
import GoSem.ClaimSeven
namespace Go.Proofs.YtgpokjjodimbmaaDoor
namespace Rows

/-- THE TIED CARD OF 'tumbtop.TopQualifiedEnter'. -/
def topQualifiedEnterCard : Claim7 := { stood := { row := topQualifiedEnterRow, standIns := [], harness := (true, "e101d862139daa0473e2ef6aea61cce7afad71e4b2c743045a29cef53b00ee43"), looks := false }, kinds := [], alts := [], laidByText := true, laidKinds := [.data, .pinned], laidTests := true, laidLooks := .later }
def TopQualifiedEnterCardSaid : Prop := Claim7.holds Tryd.pinned (.plain (OpenSpec.ofChange topQualifiedEnterSpec)) topQualifiedEnterCard

/-- THE SECOND FORM's CARD OF 'tumbtop.TopQualifiedEnter'. -/
def topQualifiedEnterUptoCard : Claim7 := { stood := { row := topQualifiedEnterUptoRow, standIns := [], harness := (true, "e101d862139daa0473e2ef6aea61cce7afad71e4b2c743045a29cef53b00ee43"), looks := false }, kinds := [], alts := [], laidByText := true, laidKinds := [.data, .pinned], laidTests := true, laidLooks := .later }
def TopQualifiedEnterUptoCardSaid : Prop := Claim7.holds Tryd.pinned (.plain (OpenSpec.upto topQualifiedEnterSpec)) topQualifiedEnterUptoCard
end Rows
end Go.Proofs.YtgpokjjodimbmaaDoor
