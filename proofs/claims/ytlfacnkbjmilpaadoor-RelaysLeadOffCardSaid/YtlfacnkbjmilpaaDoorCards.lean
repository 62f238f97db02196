/-
  DERIVED. GIVEN WITH THE SEED: THE CARDS: each row of YtlfacnkbjmilpaaDoorRows.lean that lists a variable, with what it lists TIED to the program's text (the seventh form; the later family's looks); each row that meets fmt, with fmt's text TOLD by the authors' own Lean function (tested against real Go, not proved from fmt's source: count such statements apart). THE CARD IS WHAT COUNTS. Prove the row's statement (the work); the ties are given (YtlfacnkbjmilpaaDoorTie.lean); close each card by the builder's one call (the guide's Derived/Test/ToyasCard.lean, 'card_holds'). Laid BY PROGRAM, IN A SANDBOX (cutbox-door.mjs). By AI agents, Wed Nov 11 2026. No macro, syntax, notation, axiom, sorry.
-/
import Derived.Test.YtlfacnkbjmilpaaDoorRows
import GoSem.ClaimSeven
namespace Go.Proofs.YtlfacnkbjmilpaaDoor
namespace Rows

/-- THE TIED CARD OF 'tumblaw2.RelaysLeadOff'. -/
def relaysLeadOffCard : Claim7 := { stood := { row := relaysLeadOffRow, standIns := [], harness := (true, "b19b4e616a15a0ce54e3dddeb790b2234440de3b9a73a0826a810242d46f2229"), looks := false }, kinds := [], alts := [], laidByText := true, laidKinds := [.data, .pinned], laidTests := true, laidLooks := .later }
def RelaysLeadOffCardSaid : Prop := Claim7.holds Tryd.pinned (.plain (OpenSpec.ofChange relaysLeadOffSpec)) relaysLeadOffCard

/-- THE SECOND FORM's CARD OF 'tumblaw2.RelaysLeadOff'. -/
def relaysLeadOffUptoCard : Claim7 := { stood := { row := relaysLeadOffUptoRow, standIns := [], harness := (true, "b19b4e616a15a0ce54e3dddeb790b2234440de3b9a73a0826a810242d46f2229"), looks := false }, kinds := [], alts := [], laidByText := true, laidKinds := [.data, .pinned], laidTests := true, laidLooks := .later }
def RelaysLeadOffUptoCardSaid : Prop := Claim7.holds Tryd.pinned (.plain (OpenSpec.upto relaysLeadOffSpec)) relaysLeadOffUptoCard
end Rows
end Go.Proofs.YtlfacnkbjmilpaaDoor
