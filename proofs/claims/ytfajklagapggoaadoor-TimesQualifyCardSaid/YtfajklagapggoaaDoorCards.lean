/-
  DERIVED. GIVEN WITH THE SEED: THE CARDS: each row of YtfajklagapggoaaDoorRows.lean that lists a variable, with what it lists TIED to the program's text (the seventh form; the later family's looks); each row that meets fmt, with fmt's text TOLD by the authors' own Lean function (tested against real Go, not proved from fmt's source: count such statements apart). THE CARD IS WHAT COUNTS. Prove the row's statement (the work); the ties are given (YtfajklagapggoaaDoorTie.lean); close each card by the builder's one call (the guide's Derived/Test/ToyasCard.lean, 'card_holds'). Laid BY PROGRAM, IN A SANDBOX (cutbox-door.mjs). By AI agents, Wed Nov 11 2026. No macro, syntax, notation, axiom, sorry.
-/
import Derived.Test.YtfajklagapggoaaDoorRows
import GoSem.ClaimSeven
namespace Go.Proofs.YtfajklagapggoaaDoor
namespace Rows

/-- THE TIED CARD OF 'tumblaw2.TimesQualify'. -/
def timesQualifyCard : Claim7 := { stood := { row := timesQualifyRow, standIns := [], harness := (true, "ec9964d0e4c3be5a76867cee296bbca416f8d43f1626ca962f8bae1078852681"), looks := false }, kinds := [], alts := [], laidByText := true, laidKinds := [.data, .pinned], laidTests := true, laidLooks := .later }
def TimesQualifyCardSaid : Prop := Claim7.holds Tryd.pinned (.plain (OpenSpec.ofChange timesQualifySpec)) timesQualifyCard

/-- THE SECOND FORM's CARD OF 'tumblaw2.TimesQualify'. -/
def timesQualifyUptoCard : Claim7 := { stood := { row := timesQualifyUptoRow, standIns := [], harness := (true, "ec9964d0e4c3be5a76867cee296bbca416f8d43f1626ca962f8bae1078852681"), looks := false }, kinds := [], alts := [], laidByText := true, laidKinds := [.data, .pinned], laidTests := true, laidLooks := .later }
def TimesQualifyUptoCardSaid : Prop := Claim7.holds Tryd.pinned (.plain (OpenSpec.upto timesQualifySpec)) timesQualifyUptoCard
end Rows
end Go.Proofs.YtfajklagapggoaaDoor
