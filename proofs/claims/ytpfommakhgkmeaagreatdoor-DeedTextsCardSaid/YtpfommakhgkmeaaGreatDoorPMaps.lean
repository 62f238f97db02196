/- Maps, as lists of entries. No program stands here. -/
import Derived.Test.YtpfommakhgkmeaaGreatDoorPStream
namespace Go.Proofs.YtpfommakhgkmeaaGreatDoor
open Go
theorem mfindPut {κ ν : Type} [DecidableEq κ] (k k' : κ) (v : ν) : ∀ (m : List (κ × ν)) (i : Nat), (mfind (mput m k v) k' i).map (·.2) = if k' = k then some v else (mfind m k' i).map (·.2)
  | [], i => by
    by_cases h : k' = k <;> simp [mput, mfind, h]
  | (q, u) :: m, i => by
    by_cases h1 : k = q
    · subst h1
      by_cases h2 : k' = k <;> simp [mput, mfind, h2]
    · by_cases h2 : k' = q
      · subst h2
        simp [mput, mfind, h1]
        exact fun h => (h1 h.symm).elim
      · simp only [mput, h1, if_false, mfind, h2]
        exact mfindPut k k' v m (i + 1)
theorem mgetPut {κ ν : Type} [DecidableEq κ] (m : List (κ × ν)) (k k' : κ) (v d : ν) : mgetD (mput m k v) k' d = if k' = k then v else mgetD m k' d := by
  unfold mgetD mget
  rw [mfindPut]
  split <;> simp
end Go.Proofs.YtpfommakhgkmeaaGreatDoor
