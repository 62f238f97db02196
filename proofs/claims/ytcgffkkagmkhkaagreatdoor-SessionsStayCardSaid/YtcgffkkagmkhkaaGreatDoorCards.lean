/-
  DERIVED. GIVEN WITH THE SEED: THE CARDS: each row of YtcgffkkagmkhkaaGreatDoorRows.lean that lists a variable, with what it lists TIED to the program's text (the seventh form; the later family's looks); each row that meets fmt, with fmt's text TOLD by the authors' own Lean function (tested against real Go, not proved from fmt's source: count such statements apart). THE CARD IS WHAT COUNTS. Prove the row's statement (the work); the ties are given (YtcgffkkagmkhkaaGreatDoorTie.lean); close each card by the builder's one call (the guide's Derived/Test/ToyasCard.lean, 'card_holds'). Laid BY PROGRAM, IN A SANDBOX (cutbox-door.mjs). By AI agents, Wed Nov 11 2026. No macro, syntax, notation, axiom, sorry.
-/
import Derived.Test.YtcgffkkagmkhkaaGreatDoorRows
import GoSem.ClaimSeven
namespace Go.Proofs.YtcgffkkagmkhkaaGreatDoor
namespace Rows

/-- THE TIED CARD OF 'tumbkeep2.SessionsStay'. -/
def sessionsStayCard : Claim7 := { stood := { row := sessionsStayRow, standIns := [], harness := (true, "173313869d6e0726815fd21c066f9506966a2c1596403c3d3b9e47a12551874c"), looks := false }, kinds := [], alts := [], laidByText := true, laidKinds := [.data, .pinned], laidTests := true, laidLooks := .later }
def SessionsStayCardSaid : Prop := Claim7.holds Tryz.pinned (.plain (OpenSpec.ofChange sessionsStaySpec)) sessionsStayCard

/-- THE SECOND FORM's CARD OF 'tumbkeep2.SessionsStay'. -/
def sessionsStayUptoCard : Claim7 := { stood := { row := sessionsStayUptoRow, standIns := [], harness := (true, "173313869d6e0726815fd21c066f9506966a2c1596403c3d3b9e47a12551874c"), looks := false }, kinds := [], alts := [], laidByText := true, laidKinds := [.data, .pinned], laidTests := true, laidLooks := .later }
def SessionsStayUptoCardSaid : Prop := Claim7.holds Tryz.pinned (.plain (OpenSpec.upto sessionsStaySpec)) sessionsStayUptoCard
end Rows
end Go.Proofs.YtcgffkkagmkhkaaGreatDoor
