/-
  DERIVED. GIVEN WITH THE SEED: THE CARDS: each row of YtombbefepcipcaaGreatDoorRows.lean that lists a variable, with what it lists TIED to the program's text (the seventh form; the later family's looks); each row that meets fmt, with fmt's text TOLD by the authors' own Lean function (tested against real Go, not proved from fmt's source: count such statements apart). THE CARD IS WHAT COUNTS. Prove the row's statement (the work); the ties are given (YtombbefepcipcaaGreatDoorTie.lean); close each card by the builder's one call (the guide's Derived/Test/ToyasCard.lean, 'card_holds'). Laid BY PROGRAM, IN A SANDBOX (cutbox-door.mjs). By AI agents, Wed Nov 11 2026. No macro, syntax, notation, axiom, sorry.
-/
import Derived.Test.YtombbefepcipcaaGreatDoorRows
import GoSem.ClaimSeven
namespace Go.Proofs.YtombbefepcipcaaGreatDoor
namespace Rows

/-- THE TIED CARD OF 'tumbkeep2.OrdersAreBest'. -/
def ordersAreBestCard : Claim7 := { stood := { row := ordersAreBestRow, standIns := [], harness := (true, "a1a744d28a0f53d4e8be8de8964feac45202e7ae38911446dc148a7b2975ba0e"), looks := false }, kinds := [], alts := [], laidByText := true, laidKinds := [.data, .pinned], laidTests := true, laidLooks := .later }
def OrdersAreBestCardSaid : Prop := Claim7.holds Tryz.pinned (.plain (OpenSpec.ofChange ordersAreBestSpec)) ordersAreBestCard

/-- THE SECOND FORM's CARD OF 'tumbkeep2.OrdersAreBest'. -/
def ordersAreBestUptoCard : Claim7 := { stood := { row := ordersAreBestUptoRow, standIns := [], harness := (true, "a1a744d28a0f53d4e8be8de8964feac45202e7ae38911446dc148a7b2975ba0e"), looks := false }, kinds := [], alts := [], laidByText := true, laidKinds := [.data, .pinned], laidTests := true, laidLooks := .later }
def OrdersAreBestUptoCardSaid : Prop := Claim7.holds Tryz.pinned (.plain (OpenSpec.upto ordersAreBestSpec)) ordersAreBestUptoCard
end Rows
end Go.Proofs.YtombbefepcipcaaGreatDoor
