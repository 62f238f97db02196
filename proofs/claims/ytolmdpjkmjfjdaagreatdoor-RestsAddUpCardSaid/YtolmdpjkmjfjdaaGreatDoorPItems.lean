/- Items: the check and the document's fault are one. No program stands here but its twins. -/
import Derived.Test.YtolmdpjkmjfjdaaGreatDoorPKey2
namespace Go.Proofs.YtolmdpjkmjfjdaaGreatDoor
open Go

theorem mfind_put {κ ν : Type} [DecidableEq κ] (k k' : κ) (v : ν) : ∀ (m : List (κ × ν)) (i : Nat), (mfind (mput m k v) k' i).map (·.2) = if k' = k then some v else (mfind m k' i).map (·.2)
  | [], i => by
    by_cases h : k' = k <;> simp [mput, mfind, h]
  | (q, u) :: m, i => by
    by_cases h : k = q
    · subst h
      by_cases h2 : k' = k <;> simp [mput, mfind, h2]
    · by_cases h2 : k' = q
      · subst h2
        have h3 : ¬ k' = k := fun e => h e.symm
        simp [mput, mfind, h, h3]
      · simp [mput, mfind, h, h2, mfind_put k k' v m (i + 1)]
theorem mgetD_put {κ ν : Type} [DecidableEq κ] (m : List (κ × ν)) (k k' : κ) (v d : ν) : mgetD (mput m k v) k' d = if k' = k then v else mgetD m k' d := by
  unfold mgetD mget
  rw [mfind_put]
  split <;> simp
/-- An item whose numbers are as they must be. -/
def Good (x : GItem) : Prop := (1 ≤ x.Heats ∧ x.Heats ≤ 60) ∧ (1 ≤ x.Long ∧ x.Long ≤ 3600000) ∧ (0 ≤ x.Gap ∧ x.Gap ≤ 3600000) ∧ (0 ≤ x.Break ∧ x.Break ≤ 3600000)
theorem cut_app {α : Type} (dn ys : List α) : cut (dn ++ ys) 0 (dn.length : Int) = dn := by simp [cut]
end Go.Proofs.YtolmdpjkmjfjdaaGreatDoor
