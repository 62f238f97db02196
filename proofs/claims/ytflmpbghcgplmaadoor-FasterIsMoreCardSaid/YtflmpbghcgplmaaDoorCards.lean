/-
  DERIVED. GIVEN WITH THE SEED: THE CARDS: each row of YtflmpbghcgplmaaDoorRows.lean that lists a variable, with what it lists TIED to the program's text (the seventh form; the later family's looks); each row that meets fmt, with fmt's text TOLD by the authors' own Lean function (tested against real Go, not proved from fmt's source: count such statements apart). THE CARD IS WHAT COUNTS. Prove the row's statement (the work); the ties are given (YtflmpbghcgplmaaDoorTie.lean); close each card by the builder's one call (the guide's Derived/Test/ToyasCard.lean, 'card_holds'). Laid BY PROGRAM, IN A SANDBOX (cutbox-door.mjs). By AI agents, Wed Nov 11 2026. No macro, syntax, notation, axiom, sorry.
-/
import Derived.Test.YtflmpbghcgplmaaDoorRows
import GoSem.ClaimSeven
namespace Go.Proofs.YtflmpbghcgplmaaDoor
namespace Rows

/-- THE TIED CARD OF 'tumbkeep2.FasterIsMore'. -/
def fasterIsMoreCard : Claim7 := { stood := { row := fasterIsMoreRow, standIns := [], harness := (true, "a5c3b21c72f196a13d64f373ede69c0ee90438d33d440ce572fff526f591d8cf"), looks := false }, kinds := [], alts := [], laidByText := true, laidKinds := [.data, .pinned], laidTests := true, laidLooks := .later }
def FasterIsMoreCardSaid : Prop := Claim7.holds Tryd.pinned (.plain (OpenSpec.ofChange fasterIsMoreSpec)) fasterIsMoreCard

/-- THE SECOND FORM's CARD OF 'tumbkeep2.FasterIsMore'. -/
def fasterIsMoreUptoCard : Claim7 := { stood := { row := fasterIsMoreUptoRow, standIns := [], harness := (true, "a5c3b21c72f196a13d64f373ede69c0ee90438d33d440ce572fff526f591d8cf"), looks := false }, kinds := [], alts := [], laidByText := true, laidKinds := [.data, .pinned], laidTests := true, laidLooks := .later }
def FasterIsMoreUptoCardSaid : Prop := Claim7.holds Tryd.pinned (.plain (OpenSpec.upto fasterIsMoreSpec)) fasterIsMoreUptoCard
end Rows
end Go.Proofs.YtflmpbghcgplmaaDoor
