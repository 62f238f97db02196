/- The program's check of swimmers is the reference's. Conditions: the twins of package swimmer and of the reference. -/
import Derived.Test.YthefdlbcibhblaaDoorPKey2
namespace Go.Proofs.YthefdlbcibhblaaDoor
open Go
theorem key_size {s : ByteArray} (h : tumbref2_Key s = some true) : 1 ≤ s.size := by
  by_cases hs : 1 ≤ s.size ∧ s.size ≤ 40
  · exact hs.1
  · have hin : tumbref2_in (s.size : Int) 1 40 = false := by unfold tumbref2_in; simp; omega
    unfold tumbref2_Key at h
    simp only [join_eq, hin, Bool.false_eq_true, if_false, Bool.false_and] at h
    cases h
theorem sless_empty (s : ByteArray) : Sless s k_empty = false := by
  unfold Sless
  rw [show k_empty.toList = [] by decide +kernel]
  cases s.toList <;> rfl
theorem not_empty {s : ByteArray} (h : 1 ≤ s.size) : s ≠ k_empty := by rintro rfl; exact absurd h (by decide)
end Go.Proofs.YthefdlbcibhblaaDoor
