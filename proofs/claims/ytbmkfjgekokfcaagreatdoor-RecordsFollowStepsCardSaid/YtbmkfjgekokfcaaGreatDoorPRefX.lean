/- What the reference says of steps, kinds and faults, where this law does not reach it itself. Plain definitions; no program stands here. -/
import Derived.Test.YtbmkfjgekokfcaaGreatDoorPStream
namespace Go.Proofs.YtbmkfjgekokfcaaGreatDoor
open Go
def tumbref2_follows (p_state : Int) (p_kind : Int) : Bool :=
  if decide (p_kind = 1) then
  decide (p_state = 0)
  else
  if decide (p_kind = 2) then
  decide (p_state = 1)
  else
  ((decide (p_state = 1)) || (decide (p_state = 2)))
end Go.Proofs.YtbmkfjgekokfcaaGreatDoor
