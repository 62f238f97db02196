/-
  DERIVED. GIVEN WITH THE SEED: THE CARDS: each row of YthefdlbcibhblaaDoorRows.lean that lists a variable, with what it lists TIED to the program's text (the seventh form; the later family's looks); each row that meets fmt, with fmt's text TOLD by the authors' own Lean function (tested against real Go, not proved from fmt's source: count such statements apart). THE CARD IS WHAT COUNTS. Prove the row's statement (the work); the ties are given (YthefdlbcibhblaaDoorTie.lean); close each card by the builder's one call (the guide's Derived/Test/ToyasCard.lean, 'card_holds'). Laid BY PROGRAM, IN A SANDBOX (cutbox-door.mjs). By AI agents, Wed Nov 11 2026. No macro, syntax, notation, axiom, sorry.
-/
import Derived.Test.YthefdlbcibhblaaDoorRows
import GoSem.ClaimSeven
namespace Go.Proofs.YthefdlbcibhblaaDoor
namespace Rows

/-- THE TIED CARD OF 'tumbkeep2.RelaysAreFastest'. -/
def relaysAreFastestCard : Claim7 := { stood := { row := relaysAreFastestRow, standIns := [], harness := (true, "9152efb9c3ec7065b77e884f065a5ca68c6bd23fe7ddfa1055194e401fe338ee"), looks := false }, kinds := [], alts := [], laidByText := true, laidKinds := [.data, .pinned], laidTests := true, laidLooks := .later }
def RelaysAreFastestCardSaid : Prop := Claim7.holds Tryd.pinned (.plain (OpenSpec.ofChange relaysAreFastestSpec)) relaysAreFastestCard

/-- THE SECOND FORM's CARD OF 'tumbkeep2.RelaysAreFastest'. -/
def relaysAreFastestUptoCard : Claim7 := { stood := { row := relaysAreFastestUptoRow, standIns := [], harness := (true, "9152efb9c3ec7065b77e884f065a5ca68c6bd23fe7ddfa1055194e401fe338ee"), looks := false }, kinds := [], alts := [], laidByText := true, laidKinds := [.data, .pinned], laidTests := true, laidLooks := .later }
def RelaysAreFastestUptoCardSaid : Prop := Claim7.holds Tryd.pinned (.plain (OpenSpec.upto relaysAreFastestSpec)) relaysAreFastestUptoCard
end Rows
end Go.Proofs.YthefdlbcibhblaaDoor
