/-
  DERIVED. GIVEN WITH THE SEED: THE CARDS: each row of YtmoigiaomdkfiaaDoorRows.lean that lists a variable, with what it lists TIED to the program's text (the seventh form; the later family's looks); each row that meets fmt, with fmt's text TOLD by the authors' own Lean function (tested against real Go, not proved from fmt's source: count such statements apart). THE CARD IS WHAT COUNTS. Prove the row's statement (the work); the ties are given (YtmoigiaomdkfiaaDoorTie.lean); close each card by the builder's one call (the guide's Derived/Test/ToyasCard.lean, 'card_holds'). Laid BY PROGRAM, IN A SANDBOX (cutbox-door.mjs). By AI agents, Wed Nov 11 2026. No macro, syntax, notation, axiom, sorry.
-/
import Derived.Test.YtmoigiaomdkfiaaDoorRows
import GoSem.ClaimSeven
namespace Go.Proofs.YtmoigiaomdkfiaaDoor
namespace Rows

/-- THE TIED CARD OF 'tumbkeep2.SwimmersStay'. -/
def swimmersStayCard : Claim7 := { stood := { row := swimmersStayRow, standIns := [], harness := (true, "96e44a762fb322c2ba303882f21469d5c0943246ca59d98ec6af56d8a87bef05"), looks := false }, kinds := [], alts := [], laidByText := true, laidKinds := [.data, .pinned], laidTests := true, laidLooks := .later }
def SwimmersStayCardSaid : Prop := Claim7.holds Tryd.pinned (.plain (OpenSpec.ofChange swimmersStaySpec)) swimmersStayCard

/-- THE SECOND FORM's CARD OF 'tumbkeep2.SwimmersStay'. -/
def swimmersStayUptoCard : Claim7 := { stood := { row := swimmersStayUptoRow, standIns := [], harness := (true, "96e44a762fb322c2ba303882f21469d5c0943246ca59d98ec6af56d8a87bef05"), looks := false }, kinds := [], alts := [], laidByText := true, laidKinds := [.data, .pinned], laidTests := true, laidLooks := .later }
def SwimmersStayUptoCardSaid : Prop := Claim7.holds Tryd.pinned (.plain (OpenSpec.upto swimmersStaySpec)) swimmersStayUptoCard
end Rows
end Go.Proofs.YtmoigiaomdkfiaaDoor
