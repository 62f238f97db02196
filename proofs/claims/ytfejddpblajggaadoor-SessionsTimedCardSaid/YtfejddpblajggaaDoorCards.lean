/-
  DERIVED. GIVEN WITH THE SEED: THE CARDS: each row of YtfejddpblajggaaDoorRows.lean that lists a variable, with what it lists TIED to the program's text (the seventh form; the later family's looks); each row that meets fmt, with fmt's text TOLD by the authors' own Lean function (tested against real Go, not proved from fmt's source: count such statements apart). THE CARD IS WHAT COUNTS. Prove the row's statement (the work); the ties are given (YtfejddpblajggaaDoorTie.lean); close each card by the builder's one call (the guide's Derived/Test/ToyasCard.lean, 'card_holds'). Laid BY PROGRAM, IN A SANDBOX (cutbox-door.mjs). By AI agents, Wed Nov 11 2026. No macro, syntax, notation, axiom, sorry.
-/
import Derived.Test.YtfejddpblajggaaDoorRows
import GoSem.ClaimSeven
namespace Go.Proofs.YtfejddpblajggaaDoor
namespace Rows

/-- THE TIED CARD OF 'tumblaw2.SessionsTimed'. -/
def sessionsTimedCard : Claim7 := { stood := { row := sessionsTimedRow, standIns := [], harness := (true, "bf244f2c9d141f4cff619b9db2ca6f5b13ee4a835e3b91de861c52a78970e890"), looks := false }, kinds := [], alts := [], laidByText := true, laidKinds := [.data, .pinned], laidTests := true, laidLooks := .later }
def SessionsTimedCardSaid : Prop := Claim7.holds Tryd.pinned (.plain (OpenSpec.ofChange sessionsTimedSpec)) sessionsTimedCard

/-- THE SECOND FORM's CARD OF 'tumblaw2.SessionsTimed'. -/
def sessionsTimedUptoCard : Claim7 := { stood := { row := sessionsTimedUptoRow, standIns := [], harness := (true, "bf244f2c9d141f4cff619b9db2ca6f5b13ee4a835e3b91de861c52a78970e890"), looks := false }, kinds := [], alts := [], laidByText := true, laidKinds := [.data, .pinned], laidTests := true, laidLooks := .later }
def SessionsTimedUptoCardSaid : Prop := Claim7.holds Tryd.pinned (.plain (OpenSpec.upto sessionsTimedSpec)) sessionsTimedUptoCard
end Rows
end Go.Proofs.YtfejddpblajggaaDoor
