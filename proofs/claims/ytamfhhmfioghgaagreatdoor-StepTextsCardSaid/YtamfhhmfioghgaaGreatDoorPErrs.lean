/- The first error of some. No program stands here but its twins. -/
import Derived.Test.YtamfhhmfioghgaaGreatDoorPRefX
import Derived.Test.YtamfhhmfioghgaaGreatDoorPStream
namespace Go.Proofs.YtamfhhmfioghgaaGreatDoor
open Go
end Go.Proofs.YtamfhhmfioghgaaGreatDoor
