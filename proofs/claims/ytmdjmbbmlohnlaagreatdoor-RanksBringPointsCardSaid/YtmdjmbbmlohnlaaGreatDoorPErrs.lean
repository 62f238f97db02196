/- The first error of some. No program stands here but its twins. -/
import Derived.Test.YtmdjmbbmlohnlaaGreatDoorPRefX
import Derived.Test.YtmdjmbbmlohnlaaGreatDoorPStream
namespace Go.Proofs.YtmdjmbbmlohnlaaGreatDoor
open Go
theorem errs_l (j : Int) : ∀ (l : List Int) (i k : Nat), tumblaw2_errs_l1 j l i = tumblaw2_errs_l1 j l k
  | [], _, _ => rfl
  | a :: l, i, k => by rw [tumblaw2_errs_l1, tumblaw2_errs_l1, errs_l j l (i + 1) (k + 1)]
theorem errs_cons (a : Int) (l : List Int) : tumblaw2_errs (a :: l) = if a ≠ 0 then a else tumblaw2_errs l := by
  unfold tumblaw2_errs
  simp only [join_eq, tumblaw2_errs_l1]
  rw [errs_l 0 l (0 + 1) 0]
  by_cases h : a = 0 <;> simp [h]
theorem errs_nil : tumblaw2_errs [] = 0 := rfl
end Go.Proofs.YtmdjmbbmlohnlaaGreatDoor
