/- What the reference says of steps, kinds and faults, where this law does not reach it itself. Plain definitions; no program stands here. -/
import Derived.Test.YtmdjmbbmlohnlaaGreatDoorPStream
namespace Go.Proofs.YtmdjmbbmlohnlaaGreatDoor
open Go
end Go.Proofs.YtmdjmbbmlohnlaaGreatDoor
