/- The program's check of moves, and its clubs, are the reference's. No program stands here but its twins. -/
import Derived.Test.YthefdlbcibhblaaDoorPBytes
import Derived.Test.YthefdlbcibhblaaDoorPSwim
namespace Go.Proofs.YthefdlbcibhblaaDoor
open Go
end Go.Proofs.YthefdlbcibhblaaDoor
