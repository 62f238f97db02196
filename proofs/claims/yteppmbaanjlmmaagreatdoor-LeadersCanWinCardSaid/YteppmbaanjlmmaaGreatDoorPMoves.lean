/- The program's check of moves, and its clubs, are the reference's. No program stands here but its twins. -/
import Derived.Test.YteppmbaanjlmmaaGreatDoorPBytes
import Derived.Test.YteppmbaanjlmmaaGreatDoorPSwim
namespace Go.Proofs.YteppmbaanjlmmaaGreatDoor
open Go
theorem orI (a b : Int) : cmp_Or_int [a, b] = if a ≠ 0 then a else b := by
  unfold cmp_Or_int
  simp only [join_eq, cmp_Or_int_l1]
  by_cases h1 : a = 0
  · by_cases h2 : b = 0
    · simp [h1, h2]
    · simp [h1, h2]
  · simp [h1]
end Go.Proofs.YteppmbaanjlmmaaGreatDoor
