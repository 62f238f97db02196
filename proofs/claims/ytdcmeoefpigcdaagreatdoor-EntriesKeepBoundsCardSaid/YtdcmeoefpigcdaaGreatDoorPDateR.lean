/- The reference's dates are the days' dates, and so are its days. Conditions: the twins of package swimmer and of the reference. -/
import Derived.Test.YtdcmeoefpigcdaaGreatDoorPDateT
namespace Go.Proofs.YtdcmeoefpigcdaaGreatDoor
open Go
theorem compare_int (x y : Int) : cmp_Compare_int x y = if x < y then -1 else if y < x then 1 else 0 := by
  unfold cmp_Compare_int cmp_isNaN_int
  simp
end Go.Proofs.YtdcmeoefpigcdaaGreatDoor
