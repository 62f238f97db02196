/-
  DERIVED. GIVEN WITH THE SEED: THE CARDS: each row of YtancihamhcdboaaGreatDoorRows.lean that lists a variable, with what it lists TIED to the program's text (the seventh form; the later family's looks); each row that meets fmt, with fmt's text TOLD by the authors' own Lean function (tested against real Go, not proved from fmt's source: count such statements apart). THE CARD IS WHAT COUNTS. Prove the row's statement (the work); the ties are given (YtancihamhcdboaaGreatDoorTie.lean); close each card by the builder's one call (the guide's Derived/Test/ToyasCard.lean, 'card_holds'). Laid BY PROGRAM, IN A SANDBOX (cutbox-door.mjs). By AI agents, Wed Nov 11 2026. No macro, syntax, notation, axiom, sorry.
-/
import Derived.Test.YtancihamhcdboaaGreatDoorRows
import GoSem.ClaimSeven
namespace Go.Proofs.YtancihamhcdboaaGreatDoor
namespace Rows

/-- THE TIED CARD OF 'tumbkeep2.MeetsStay'. -/
def meetsStayCard : Claim7 := { stood := { row := meetsStayRow, standIns := [], harness := (true, "1b8de5dea59ccdc91128e66ad3e535d4eb023edbc06bf9d377b0014cdae971ab"), looks := false }, kinds := [], alts := [], laidByText := true, laidKinds := [.data, .pinned], laidTests := true, laidLooks := .later }
def MeetsStayCardSaid : Prop := Claim7.holds Tryz.pinned (.plain (OpenSpec.ofChange meetsStaySpec)) meetsStayCard

/-- THE SECOND FORM's CARD OF 'tumbkeep2.MeetsStay'. -/
def meetsStayUptoCard : Claim7 := { stood := { row := meetsStayUptoRow, standIns := [], harness := (true, "1b8de5dea59ccdc91128e66ad3e535d4eb023edbc06bf9d377b0014cdae971ab"), looks := false }, kinds := [], alts := [], laidByText := true, laidKinds := [.data, .pinned], laidTests := true, laidLooks := .later }
def MeetsStayUptoCardSaid : Prop := Claim7.holds Tryz.pinned (.plain (OpenSpec.upto meetsStaySpec)) meetsStayUptoCard
end Rows
end Go.Proofs.YtancihamhcdboaaGreatDoor
