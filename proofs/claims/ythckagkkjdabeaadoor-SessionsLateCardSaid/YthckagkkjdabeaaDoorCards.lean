/-
  DERIVED. GIVEN WITH THE SEED: THE CARDS: each row of YthckagkkjdabeaaDoorRows.lean that lists a variable, with what it lists TIED to the program's text (the seventh form; the later family's looks); each row that meets fmt, with fmt's text TOLD by the authors' own Lean function (tested against real Go, not proved from fmt's source: count such statements apart). THE CARD IS WHAT COUNTS. Prove the row's statement (the work); the ties are given (YthckagkkjdabeaaDoorTie.lean); close each card by the builder's one call (the guide's Derived/Test/ToyasCard.lean, 'card_holds'). Laid BY PROGRAM, IN A SANDBOX (cutbox-door.mjs). By AI agents, Wed Nov 11 2026. No macro, syntax, notation, axiom, sorry.
-/
import Derived.Test.YthckagkkjdabeaaDoorRows
import GoSem.ClaimSeven
namespace Go.Proofs.YthckagkkjdabeaaDoor
namespace Rows

/-- THE TIED CARD OF 'tumblaw2.SessionsLate'. -/
def sessionsLateCard : Claim7 := { stood := { row := sessionsLateRow, standIns := [], harness := (true, "645f310a22b1ad4857a0ddccaf4476f898c8a1a9552f2434add363229b723c3b"), looks := false }, kinds := [], alts := [], laidByText := true, laidKinds := [.data, .pinned], laidTests := true, laidLooks := .later }
def SessionsLateCardSaid : Prop := Claim7.holds Tryd.pinned (.plain (OpenSpec.ofChange sessionsLateSpec)) sessionsLateCard

/-- THE SECOND FORM's CARD OF 'tumblaw2.SessionsLate'. -/
def sessionsLateUptoCard : Claim7 := { stood := { row := sessionsLateUptoRow, standIns := [], harness := (true, "645f310a22b1ad4857a0ddccaf4476f898c8a1a9552f2434add363229b723c3b"), looks := false }, kinds := [], alts := [], laidByText := true, laidKinds := [.data, .pinned], laidTests := true, laidLooks := .later }
def SessionsLateUptoCardSaid : Prop := Claim7.holds Tryd.pinned (.plain (OpenSpec.upto sessionsLateSpec)) sessionsLateUptoCard
end Rows
end Go.Proofs.YthckagkkjdabeaaDoor
