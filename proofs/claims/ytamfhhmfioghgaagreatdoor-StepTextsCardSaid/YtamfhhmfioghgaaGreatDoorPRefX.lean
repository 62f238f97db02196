/- What the reference says of steps, kinds and faults, where this law does not reach it itself. Plain definitions; no program stands here. -/
import Derived.Test.YtamfhhmfioghgaaGreatDoorPStream
namespace Go.Proofs.YtamfhhmfioghgaaGreatDoor
open Go
end Go.Proofs.YtamfhhmfioghgaaGreatDoor
