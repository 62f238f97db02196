/- Members, by both. No program stands here but its twins. -/
import Derived.Test.YtmngaaffadcccaaGreatDoorPMoves
namespace Go.Proofs.YtmngaaffadcccaaGreatDoor
open Go
end Go.Proofs.YtmngaaffadcccaaGreatDoor
