/- Loops over lists in general: what is picked and appended, what is contained, lists that are equal, neighbours that are struck. Conditions: the lists are not long; the loops' equations are given. No program stands here. -/
import Derived.Test.YtpfommakhgkmeaaGreatDoorPSort
namespace Go.Proofs.YtpfommakhgkmeaaGreatDoor
open Go
section
variable {α β R : Type}
variable [DecidableEq α] [Inhabited α]
theorem eq_l (l : List α) (F : List α → Nat → Option Bool) (h0 : ∀ i, F [] i = some true) (h1 : ∀ y ys i, F (y :: ys) i = Chk (inB (i : Int) l.length) (if !decide (y = nth l (i : Int)) then some false else F ys (i + 1))) : ∀ (ys dn : List α), l = dn ++ ys → F ys dn.length = some true
  | [], dn, _ => h0 _
  | y :: ys, dn, h => by
    have hlen : l.length = dn.length + (ys.length + 1) := by rw [h]; simp
    have hn : nth l (dn.length : Int) = y := by rw [h]; exact nth_mid _ _ _ rfl
    have ih := eq_l l F h0 h1 ys (dn ++ [y]) (by rw [h]; simp)
    rw [List.length_append] at ih
    rw [h1, chkT (inB_iff.2 (by omega)), hn]
    simpa using ih
end
section
variable {α R : Type} [Inhabited α]
end
end Go.Proofs.YtpfommakhgkmeaaGreatDoor
