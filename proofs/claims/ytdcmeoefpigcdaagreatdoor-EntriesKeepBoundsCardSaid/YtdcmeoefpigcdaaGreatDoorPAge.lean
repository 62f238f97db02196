/- The program's ages are the reference's. Conditions: the twins of package swimmer and of the reference. -/
import Derived.Test.YtdcmeoefpigcdaaGreatDoorPDateR
import Derived.Test.YtdcmeoefpigcdaaGreatDoorPSwim
namespace Go.Proofs.YtdcmeoefpigcdaaGreatDoor
open Go
theorem orInt (a b : Int) : cmp_Or_int [a, b] = if a ≠ 0 then a else b := by
  unfold cmp_Or_int
  simp only [join_eq, cmp_Or_int_l1]
  by_cases h1 : a = 0
  · by_cases h2 : b = 0
    · simp [h1, h2]
    · simp [h1, h2]
  · simp [h1]
/-- The birthday has not come in this year. -/
def early (b n : GDate) : Prop := n.Month < b.Month ∨ (n.Month = b.Month ∧ n.Day < b.Day)
theorem or_early (b n : GDate) : (cmp_Or_int [cmp_Compare_int n.Month b.Month, cmp_Compare_int n.Day b.Day] < 0) ↔ early b n := by
  rw [orInt, compare_int, compare_int]
  unfold early
  by_cases h1 : n.Month < b.Month
  · simp [h1]
  · by_cases h2 : b.Month < n.Month
    · simp [h1, h2]; omega
    · have : n.Month = b.Month := by omega
      by_cases h3 : n.Day < b.Day
      · simp [h1, h2, h3, this]
      · by_cases h4 : b.Day < n.Day <;> simp [h1, h2, h3, h4]
end Go.Proofs.YtdcmeoefpigcdaaGreatDoor
