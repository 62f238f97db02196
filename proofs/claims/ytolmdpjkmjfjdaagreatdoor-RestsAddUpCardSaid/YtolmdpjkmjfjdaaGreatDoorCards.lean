/-
  DERIVED. GIVEN WITH THE SEED: THE CARDS: each row of YtolmdpjkmjfjdaaGreatDoorRows.lean that lists a variable, with what it lists TIED to the program's text (the seventh form; the later family's looks); each row that meets fmt, with fmt's text TOLD by the authors' own Lean function (tested against real Go, not proved from fmt's source: count such statements apart). THE CARD IS WHAT COUNTS. Prove the row's statement (the work); the ties are given (YtolmdpjkmjfjdaaGreatDoorTie.lean); close each card by the builder's one call (the guide's Derived/Test/ToyasCard.lean, 'card_holds'). Laid BY PROGRAM, IN A SANDBOX (cutbox-door.mjs). By AI agents, Wed Nov 11 2026. No macro, syntax, notation, axiom, sorry.
-/
import Derived.Test.YtolmdpjkmjfjdaaGreatDoorRows
import GoSem.ClaimSeven
namespace Go.Proofs.YtolmdpjkmjfjdaaGreatDoor
namespace Rows

/-- THE TIED CARD OF 'tumbkeep2.RestsAddUp'. -/
def restsAddUpCard : Claim7 := { stood := { row := restsAddUpRow, standIns := [], harness := (true, "7535203aea5c3a6c269ef7ae4bd5de979ffa21243db837167a263c495dae0ea5"), looks := false }, kinds := [], alts := [], laidByText := true, laidKinds := [.data, .pinned], laidTests := true, laidLooks := .later }
def RestsAddUpCardSaid : Prop := Claim7.holds Tryz.pinned (.plain (OpenSpec.ofChange restsAddUpSpec)) restsAddUpCard

/-- THE SECOND FORM's CARD OF 'tumbkeep2.RestsAddUp'. -/
def restsAddUpUptoCard : Claim7 := { stood := { row := restsAddUpUptoRow, standIns := [], harness := (true, "7535203aea5c3a6c269ef7ae4bd5de979ffa21243db837167a263c495dae0ea5"), looks := false }, kinds := [], alts := [], laidByText := true, laidKinds := [.data, .pinned], laidTests := true, laidLooks := .later }
def RestsAddUpUptoCardSaid : Prop := Claim7.holds Tryz.pinned (.plain (OpenSpec.upto restsAddUpSpec)) restsAddUpUptoCard
end Rows
end Go.Proofs.YtolmdpjkmjfjdaaGreatDoor
