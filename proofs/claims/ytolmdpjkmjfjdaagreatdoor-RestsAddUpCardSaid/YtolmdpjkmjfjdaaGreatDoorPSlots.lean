/- The document's slots are the timetable. No program stands here but its twins. -/
import Derived.Test.YtolmdpjkmjfjdaaGreatDoorPTime
namespace Go.Proofs.YtolmdpjkmjfjdaaGreatDoor
open Go

theorem nth_last {α : Type} [Inhabited α] (xs : List α) (s : α) (h : xs.length < 1073741824) : nth (xs ++ [s]) (W (((xs ++ [s]).length : Int) - 1)) = s := by
  have w : W (((xs ++ [s]).length : Int) - 1) = (xs.length : Int) := by
    simp only [List.length_append, List.length_singleton]
    rw [W_in (by push_cast; omega) (by push_cast; omega)]
    push_cast; omega
  rw [w]
  unfold nth
  rw [Int.toNat_natCast]
  simp [List.getD]
theorem inB_last {α : Type} (xs : List α) (s : α) (h : xs.length < 1073741824) : inB (W (((xs ++ [s]).length : Int) - 1)) (xs ++ [s]).length = true := by
  have w : W (((xs ++ [s]).length : Int) - 1) = (xs.length : Int) := by
    simp only [List.length_append, List.length_singleton]
    rw [W_in (by push_cast; omega) (by push_cast; omega)]
    push_cast; omega
  rw [w]
  exact inB_iff.2 ⟨by omega, by simp; omega⟩
theorem hs_last (y : GItem) : ∀ k h t, ∃ pre s, hs y (k + 1) h t = pre ++ [s] ∧ s.Time.To = endH y (k + 1) t
  | 0, h, t => ⟨[], _, rfl, rfl⟩
  | k + 1, h, t => by
    obtain ⟨pre, s, h1, h2⟩ := hs_last y k (h + 1) (t + y.Long + y.Gap)
    exact ⟨_ :: pre, s, by rw [hs, h1]; rfl, by rw [h2]; rfl⟩
/-- Where the next heat begins. -/
def Starts (l : List GItem) (from_ : Int) (y : GItem) (i : Nat) (x2 : List GSlot) (x3 T : Int) : Prop :=
  (x2 = [] ∧ T = from_) ∨ ∃ pre s, x2 = pre ++ [s] ∧ T = s.Time.To + (if x3 = 1 then (nth l (W ((i : Int) - 1))).Break else y.Gap) ∧ (x3 = 1 → inB (W ((i : Int) - 1)) l.length = true)
end Go.Proofs.YtolmdpjkmjfjdaaGreatDoor
