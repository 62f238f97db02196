/-
  DERIVED. GIVEN WITH THE SEED: THE CARDS: each row of YtdndpbbimcilpaaGreatDoorRows.lean that lists a variable, with what it lists TIED to the program's text (the seventh form; the later family's looks); each row that meets fmt, with fmt's text TOLD by the authors' own Lean function (tested against real Go, not proved from fmt's source: count such statements apart). THE CARD IS WHAT COUNTS. Prove the row's statement (the work); the ties are given (YtdndpbbimcilpaaGreatDoorTie.lean); close each card by the builder's one call (the guide's Derived/Test/ToyasCard.lean, 'card_holds'). Laid BY PROGRAM, IN A SANDBOX (cutbox-door.mjs). By AI agents, Wed Nov 11 2026. No macro, syntax, notation, axiom, sorry.
-/
import Derived.Test.YtdndpbbimcilpaaGreatDoorRows
import GoSem.ClaimSeven
namespace Go.Proofs.YtdndpbbimcilpaaGreatDoor
namespace Rows

/-- THE TIED CARD OF 'tumbtop.TopHeatsAreTimed'. -/
def topHeatsAreTimedCard : Claim7 := { stood := { row := topHeatsAreTimedRow, standIns := [], harness := (true, "d190f66062ea376206ee78495020d112e5398ff886ce2809c53d65eb1a72a9b7"), looks := false }, kinds := [], alts := [], laidByText := true, laidKinds := [.data, .pinned], laidTests := true, laidLooks := .later }
def TopHeatsAreTimedCardSaid : Prop := Claim7.holds Tryz.pinned (.plain (OpenSpec.ofChange topHeatsAreTimedSpec)) topHeatsAreTimedCard

/-- THE SECOND FORM's CARD OF 'tumbtop.TopHeatsAreTimed'. -/
def topHeatsAreTimedUptoCard : Claim7 := { stood := { row := topHeatsAreTimedUptoRow, standIns := [], harness := (true, "d190f66062ea376206ee78495020d112e5398ff886ce2809c53d65eb1a72a9b7"), looks := false }, kinds := [], alts := [], laidByText := true, laidKinds := [.data, .pinned], laidTests := true, laidLooks := .later }
def TopHeatsAreTimedUptoCardSaid : Prop := Claim7.holds Tryz.pinned (.plain (OpenSpec.upto topHeatsAreTimedSpec)) topHeatsAreTimedUptoCard
end Rows
end Go.Proofs.YtdndpbbimcilpaaGreatDoor
