/- Fractions in lowest terms whose denominators divide 60: each is a whole number of sixtieths, and they add so. No program stands here but its twins. -/
import Derived.Test.YtcnneeipmadakaaGreatDoorPStream
namespace Go.Proofs.YtcnneeipmadakaaGreatDoor
open Go
end Go.Proofs.YtcnneeipmadakaaGreatDoor
