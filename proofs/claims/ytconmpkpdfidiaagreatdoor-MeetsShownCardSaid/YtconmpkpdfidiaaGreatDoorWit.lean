/- The world of the witness: the settled one,in which two tables of Go's library hold what the program's text lays. No statement is proved here. -/
import Derived.Test.YtconmpkpdfidiaaGreatDoorCards
import Derived.Test.YtconmpkpdfidiaaGreatDoorTie
import Derived.Test.YtconmpkpdfidiaaGreatDoorLaw
import Derived.WalkKit
import Derived.Deep.DeepHandedRow
import Derived.Lib.LaidTab
import Derived.Lay
import Derived.LaidSub
import Derived.MakeChecks
import Derived.Deep.DeepWitnessRowRef
import Derived.Test.YtconmpkpdfidiaaGreatDoorText
namespace Go.Proofs.YtconmpkpdfidiaaGreatDoor
open Go Go.ChangeShapes Go.WideShapes Go.ChangeAt Go.RowKit
theorem own : ownKnob Tryz.prog.godebug = none:=by kernel_rfl
end Go.Proofs.YtconmpkpdfidiaaGreatDoor
