/- Loops over lists in general: what is picked and appended, what is contained, lists that are equal, neighbours that are struck. Conditions: the lists are not long; the loops' equations are given. No program stands here. -/
import Derived.Test.YtmdjmbbmlohnlaaGreatDoorPSort
namespace Go.Proofs.YtmdjmbbmlohnlaaGreatDoor
open Go
section
variable {α β R : Type}
variable [DecidableEq α] [Inhabited α]
end
section
variable {α R : Type} [Inhabited α]
end
end Go.Proofs.YtmdjmbbmlohnlaaGreatDoor
