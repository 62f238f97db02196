/- Records and their history: the program's are the reference's. No program stands here but its twins. -/
import Derived.Test.YtamfhhmfioghgaaGreatDoorPRecW
namespace Go.Proofs.YtamfhhmfioghgaaGreatDoor
open Go
end Go.Proofs.YtamfhhmfioghgaaGreatDoor
