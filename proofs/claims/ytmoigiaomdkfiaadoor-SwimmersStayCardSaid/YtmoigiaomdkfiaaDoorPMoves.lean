/- The program's check of moves, and its clubs, are the reference's. No program stands here but its twins. -/
import Derived.Test.YtmoigiaomdkfiaaDoorPBytes
import Derived.Test.YtmoigiaomdkfiaaDoorPSwim
namespace Go.Proofs.YtmoigiaomdkfiaaDoor
open Go
theorem cmpInt (x y : Int) : cmp_Compare_int x y = if x < y then -1 else if y < x then 1 else 0 := by
  unfold cmp_Compare_int cmp_isNaN_int
  simp
theorem orI (a b : Int) : cmp_Or_int [a, b] = if a ≠ 0 then a else b := by
  unfold cmp_Or_int
  simp only [join_eq, cmp_Or_int_l1]
  by_cases h1 : a = 0
  · by_cases h2 : b = 0
    · simp [h1, h2]
    · simp [h1, h2]
  · simp [h1]
/-- A move whose numbers are as they must be. -/
def MDay (x : GMove) : Prop := -40000 ≤ x.Day ∧ x.Day ≤ 4000
theorem order_le (p q : GMove) (h : ¬ 0 ≤ cmp_Or_int [strings_Compare p.Who q.Who, cmp_Compare_int p.Day q.Day]) : leB p.Who q.Who := by
  rw [orI] at h
  by_cases h0 : strings_Compare p.Who q.Who = 0
  · exact .inr (cB_zero h0)
  · rw [if_pos h0] at h
    exact .inl (by unfold cB; unfold strings_Compare at h; omega)
/-- Moves in order of who moves. -/
def MSorted (l : List GMove) : Prop := ∀ dn p q ys, l = dn ++ p :: q :: ys → leB p.Who q.Who
theorem sorted_before {l dn ys : List GMove} {p q : GMove} (hs : MSorted l) (h : l = dn ++ p :: q :: ys) (hne : p.Who ≠ q.Who) : ∀ x ∈ dn ++ [p], x.Who ≠ q.Who := by
  have hpq : cB p.Who q.Who < 0 := by
    rcases hs dn p q ys h with h | h
    · exact h
    · exact (hne h).elim
  have key : ∀ (r d : List GMove), dn ++ [p] = d ++ r → r ≠ [] → ∀ x ∈ r, leB x.Who p.Who := by
    intro r
    induction r with
    | nil => intro _ _ h0; exact (h0 rfl).elim
    | cons z r ih =>
      intro d h0 _ x hx
      cases r with
      | nil =>
        have h4 := List.append_inj' h0 rfl
        have hz : p = z := by simpa using h4.2
        subst hz
        rw [List.mem_singleton] at hx; subst hx; exact .inr rfl
      | cons w r =>
        have h1 := ih (d ++ [z]) (by rw [h0]; simp) (by simp)
        have h2 : leB z.Who w.Who := hs d z w (r ++ q :: ys) (by rw [h]; have : dn ++ p :: q :: ys = (dn ++ [p]) ++ q :: ys := by simp
                                                                 rw [this, h0]; simp)
        rcases List.mem_cons.1 hx with rfl | hx
        · exact leB_trans h2 (h1 w List.mem_cons_self)
        · exact h1 x hx
  intro x hx
  have h1 := leB_lt (key (dn ++ [p]) [] rfl (by simp) x hx) hpq
  intro h2
  rw [h2, cB_refl] at h1
  exact absurd h1 (by decide)
end Go.Proofs.YtmoigiaomdkfiaaDoor
