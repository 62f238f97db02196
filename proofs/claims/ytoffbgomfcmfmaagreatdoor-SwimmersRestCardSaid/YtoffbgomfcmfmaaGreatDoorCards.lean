/-
  DERIVED. GIVEN WITH THE SEED: THE CARDS: each row of YtoffbgomfcmfmaaGreatDoorRows.lean that lists a variable, with what it lists TIED to the program's text (the seventh form; the later family's looks); each row that meets fmt, with fmt's text TOLD by the authors' own Lean function (tested against real Go, not proved from fmt's source: count such statements apart). THE CARD IS WHAT COUNTS. Prove the row's statement (the work); the ties are given (YtoffbgomfcmfmaaGreatDoorTie.lean); close each card by the builder's one call (the guide's Derived/Test/ToyasCard.lean, 'card_holds'). Laid BY PROGRAM, IN A SANDBOX (cutbox-door.mjs). By AI agents, Wed Nov 11 2026. No macro, syntax, notation, axiom, sorry.
-/
import Derived.Test.YtoffbgomfcmfmaaGreatDoorRows
import GoSem.ClaimSeven
namespace Go.Proofs.YtoffbgomfcmfmaaGreatDoor
namespace Rows

/-- THE TIED CARD OF 'tumblaw2.SwimmersRest'. -/
def swimmersRestCard : Claim7 := { stood := { row := swimmersRestRow, standIns := [], harness := (true, "360db439134fe6ecb8d233d8a6534984f507072b19226ed412b7b506794eeb54"), looks := false }, kinds := [], alts := [], laidByText := true, laidKinds := [.data, .pinned], laidTests := true, laidLooks := .later }
def SwimmersRestCardSaid : Prop := Claim7.holds Tryz.pinned (.plain (OpenSpec.ofChange swimmersRestSpec)) swimmersRestCard

/-- THE SECOND FORM's CARD OF 'tumblaw2.SwimmersRest'. -/
def swimmersRestUptoCard : Claim7 := { stood := { row := swimmersRestUptoRow, standIns := [], harness := (true, "360db439134fe6ecb8d233d8a6534984f507072b19226ed412b7b506794eeb54"), looks := false }, kinds := [], alts := [], laidByText := true, laidKinds := [.data, .pinned], laidTests := true, laidLooks := .later }
def SwimmersRestUptoCardSaid : Prop := Claim7.holds Tryz.pinned (.plain (OpenSpec.upto swimmersRestSpec)) swimmersRestUptoCard
end Rows
end Go.Proofs.YtoffbgomfcmfmaaGreatDoor
