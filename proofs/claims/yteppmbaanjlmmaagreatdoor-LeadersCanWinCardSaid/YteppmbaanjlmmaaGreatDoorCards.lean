/-
  DERIVED. GIVEN WITH THE SEED: THE CARDS: each row of YteppmbaanjlmmaaGreatDoorRows.lean that lists a variable, with what it lists TIED to the program's text (the seventh form; the later family's looks); each row that meets fmt, with fmt's text TOLD by the authors' own Lean function (tested against real Go, not proved from fmt's source: count such statements apart). THE CARD IS WHAT COUNTS. Prove the row's statement (the work); the ties are given (YteppmbaanjlmmaaGreatDoorTie.lean); close each card by the builder's one call (the guide's Derived/Test/ToyasCard.lean, 'card_holds'). Laid BY PROGRAM, IN A SANDBOX (cutbox-door.mjs). By AI agents, Wed Nov 11 2026. No macro, syntax, notation, axiom, sorry.
-/
import Derived.Test.YteppmbaanjlmmaaGreatDoorRows
import GoSem.ClaimSeven
namespace Go.Proofs.YteppmbaanjlmmaaGreatDoor
namespace Rows

/-- THE TIED CARD OF 'tumbkeep2.LeadersCanWin'. -/
def leadersCanWinCard : Claim7 := { stood := { row := leadersCanWinRow, standIns := [], harness := (true, "fb55be5b06913925d2868965a93a2a9afd04b475b2f4d8edd7e30f5f78cedfcd"), looks := false }, kinds := [], alts := [], laidByText := true, laidKinds := [.data, .pinned], laidTests := true, laidLooks := .later }
def LeadersCanWinCardSaid : Prop := Claim7.holds Tryz.pinned (.plain (OpenSpec.ofChange leadersCanWinSpec)) leadersCanWinCard

/-- THE SECOND FORM's CARD OF 'tumbkeep2.LeadersCanWin'. -/
def leadersCanWinUptoCard : Claim7 := { stood := { row := leadersCanWinUptoRow, standIns := [], harness := (true, "fb55be5b06913925d2868965a93a2a9afd04b475b2f4d8edd7e30f5f78cedfcd"), looks := false }, kinds := [], alts := [], laidByText := true, laidKinds := [.data, .pinned], laidTests := true, laidLooks := .later }
def LeadersCanWinUptoCardSaid : Prop := Claim7.holds Tryz.pinned (.plain (OpenSpec.upto leadersCanWinSpec)) leadersCanWinUptoCard
end Rows
end Go.Proofs.YteppmbaanjlmmaaGreatDoor
