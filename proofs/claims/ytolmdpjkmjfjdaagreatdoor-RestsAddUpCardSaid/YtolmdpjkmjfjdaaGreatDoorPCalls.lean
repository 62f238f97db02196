/- The program's check of who swims when is the reference's. No program stands here but its twins. -/
import Derived.Test.YtolmdpjkmjfjdaaGreatDoorPBeginT
import Derived.Test.YtolmdpjkmjfjdaaGreatDoorPHeld
import Derived.Test.YtolmdpjkmjfjdaaGreatDoorPBytes
import Derived.Test.YtolmdpjkmjfjdaaGreatDoorPSort2
namespace Go.Proofs.YtolmdpjkmjfjdaaGreatDoor
open Go
theorem cmpI2 (x y : Int) : cmp_Compare_int x y = if x < y then -1 else if y < x then 1 else 0 := by
  unfold cmp_Compare_int cmp_isNaN_int
  simp
theorem orc3 (a b c : Int) : cmp_Or_int [a, b, c] = if a ≠ 0 then a else if b ≠ 0 then b else c := by
  unfold cmp_Or_int
  simp only [joinR, cmp_Or_int_l1]
  by_cases h1 : a = 0 <;> by_cases h2 : b = 0 <;> by_cases h3 : c = 0 <;> simp [h1, h2, h3]
theorem orc2 (a b : Int) : cmp_Or_int [a, b] = if a ≠ 0 then a else b := by
  unfold cmp_Or_int
  simp only [joinR, cmp_Or_int_l1]
  by_cases h1 : a = 0 <;> by_cases h2 : b = 0 <;> simp [h1, h2]
/-- The order of calls. -/
def cC (a b : GCall) : Int := if cB a.Who b.Who ≠ 0 then cB a.Who b.Who else if cB a.Item b.Item ≠ 0 then cB a.Item b.Item else if a.Heat < b.Heat then -1 else if b.Heat < a.Heat then 1 else 0
theorem compareCalls_is (a b : GCall) : session_compareCalls a b = cC a b := by
  unfold session_compareCalls cC
  have h1 : strings_Compare a.Who b.Who = cB a.Who b.Who := rfl
  have h2 : strings_Compare a.Item b.Item = cB a.Item b.Item := rfl
  rw [orc3, cmpI2, h1, h2]
/-- A call that there is. -/
structure CV (items : List GItem) (c : GCall) (k : Nat) (y : GItem) : Prop where
  ix : ixN items c.Item = some k
  get : items[k]? = some y
  h1 : 1 ≤ c.Heat
  h2 : c.Heat ≤ y.Heats
def CAdj (l : List GCall) : Prop := ∀ dn p q ys, l = dn ++ p :: q :: ys → cC p q < 0
theorem cadj_snoc {l : List GCall} {y : GCall} (h : CAdj l) (hy : ∀ d p, l = d ++ [p] → cC p y < 0) : CAdj (l ++ [y]) := by
  intro d p q r e
  rcases List.eq_nil_or_concat r with rfl | ⟨r', z, rfl⟩
  · have h' : l ++ [y] = (d ++ [p]) ++ [q] := by rw [e]; simp
    have h4 := List.append_inj' h' rfl
    have hq : y = q := by simpa using h4.2
    subst hq
    exact hy d p h4.1
  · have h' : l ++ [y] = (d ++ p :: q :: r') ++ [z] := by rw [e]; simp
    exact h d p q r' (List.append_inj' h' rfl).1
end Go.Proofs.YtolmdpjkmjfjdaaGreatDoor
