/- The program's dates are the days' dates. Conditions: the twins of package swimmer. -/
import Derived.Test.YtkpjakcepffimaaGreatDoorPDate
namespace Go.Proofs.YtkpjakcepffimaaGreatDoor
open Go
theorem tmod_pos {a b : Int} (h : 0 ≤ a) : Int.tmod a b = a % b := Int.tmod_eq_emod_of_nonneg h
theorem leap_eq {y : Int} (h : 0 ≤ y) : swimmer_leap y = lp y := by unfold swimmer_leap lp; rw [tmod_pos h, tmod_pos h, tmod_pos h]
theorem yearLong_eq {y : Int} (h : 0 ≤ y) : swimmer_yearLong y = yl y := by unfold swimmer_yearLong yl; rw [leap_eq h]
theorem twelve {m : Int} (h1 : 1 ≤ m) (h2 : m ≤ 12) : m = 1 ∨ m = 2 ∨ m = 3 ∨ m = 4 ∨ m = 5 ∨ m = 6 ∨ m = 7 ∨ m = 8 ∨ m = 9 ∨ m = 10 ∨ m = 11 ∨ m = 12 := by omega
theorem long_eq {y m : Int} (h : 0 ≤ y) (h1 : 1 ≤ m) (h2 : m ≤ 12) : swimmer_long y m = ml y m := by
  unfold swimmer_long ml mlN
  rw [leap_eq h]
  rcases twelve h1 h2 with rfl | rfl | rfl | rfl | rfl | rfl | rfl | rfl | rfl | rfl | rfl | rfl <;> first | rfl | (cases lp y <;> rfl)
theorem out_l1 (day : Int) (j : Int → Int → Option GDate) (hd : -40001 ≤ day) : ∀ (m : Nat) (x y : Int), jan1 x + y = day → x ≤ 2024 → y ≤ 4001 → -y < (m : Int) → ∃ x' y', swimmer_dateOf_l1 j (m + 1) x y = j x' y' ∧ jan1 x' + y' = day ∧ x' ≤ 2024 ∧ 0 ≤ y' ∧ (y' ≤ 4001)
  | m, x, y, h1, h2, h4, h3 => by
    have hx : 1800 ≤ x := by unfold jan1 at h1; omega
    rw [swimmer_dateOf_l1]
    by_cases hy : y < 0
    · rw [if_pos (decide_eq_true hy)]
      have e1 : W (x - 1) = x - 1 := W_in (by omega) (by omega)
      rw [e1, yearLong_eq (by omega)]
      have hy1 := yl_pos (x - 1)
      have e2 : W (y + yl (x - 1)) = y + yl (x - 1) := W_in (by unfold jan1 at h1; omega) (by omega)
      rw [e2]
      cases m with
      | zero => omega
      | succ m =>
        refine out_l1 day j hd m (x - 1) (y + yl (x - 1)) ?_ (by omega) (by omega) (by omega)
        have := jan1_succ (x - 1)
        rw [show x - 1 + 1 = x by omega] at this; omega
    · rw [if_neg (by simpa using hy)]
      exact ⟨x, y, rfl, h1, h2, by omega, h4⟩
theorem out_l2 (day : Int) (j : Int → Int → Option GDate) : ∀ (m : Nat) (x y : Int), jan1 x + y = day → 1800 ≤ x → x + y ≤ 10000 → 0 ≤ y → y - yl x < (m : Int) → ∃ x' y', swimmer_dateOf_l2 j (m + 1) x y = j x' y' ∧ jan1 x' + y' = day ∧ 1800 ≤ x' ∧ x' ≤ 10000 ∧ 0 ≤ y' ∧ y' < yl x'
  | m, x, y, h1, h2, h4, h5, h3 => by
    rw [swimmer_dateOf_l2, yearLong_eq (by omega)]
    have hy1 := yl_pos x
    by_cases hy : yl x ≤ y
    · rw [if_pos (decide_eq_true hy)]
      have e1 : W (x + 1) = x + 1 := W_in (by omega) (by omega)
      have e2 : W (y - yl x) = y - yl x := W_in (by omega) (by omega)
      rw [e1, e2]
      cases m with
      | zero => omega
      | succ m =>
        have hy2 := yl_pos (x + 1)
        refine out_l2 day j m (x + 1) (y - yl x) ?_ (by omega) (by omega) (by omega) (by omega)
        rw [jan1_succ]; omega
    · rw [if_neg (by simpa using hy)]
      exact ⟨x, y, rfl, h1, h2, by omega, h5, by omega⟩
theorem out_l3 (x rest : Int) (hx : 0 ≤ x) (hr : rest < yl x) (j : Int → Int → Option GDate) : ∀ (k : Nat) (m : Nat) (x5 x6 : Int), mon x x5 + x6 = rest → 1 ≤ x5 → x5 ≤ 12 → 12 - x5 ≤ (k : Int) → 0 ≤ x6 → x6 - ml x x5 < (m : Int) →
    ∃ x5' x6', swimmer_dateOf_l3 x j (m + 1) x5 x6 = j x5' x6' ∧ mon x x5' + x6' = rest ∧ 1 ≤ x5' ∧ x5' ≤ 12 ∧ 0 ≤ x6' ∧ x6' < ml x x5'
  | k, m, x5, x6, h1, h2, h3, h4, h5, h6 => by
    rw [swimmer_dateOf_l3, long_eq hx h2 h3]
    have hm := ml_rng x x5
    by_cases hy : ml x x5 ≤ x6
    · have hy' := yl_pos x
      have hmon : 0 ≤ mon x x5 := by unfold mon; omega
      rw [if_pos (decide_eq_true hy)]
      have hlt : x5 < 12 := by
        by_cases h : x5 < 12
        · exact h
        · have : x5 = 12 := by omega
          subst this
          have := mon_dec x; omega
      have e1 : W (x5 + 1) = x5 + 1 := W_in (by omega) (by omega)
      have e2 : W (x6 - ml x x5) = x6 - ml x x5 := W_in (by omega) (by omega)
      rw [e1, e2]
      cases m with
      | zero => omega
      | succ m =>
        cases k with
        | zero => omega
        | succ k =>
          have hm2 := ml_rng x (x5 + 1)
          refine out_l3 x rest hx hr j k m (x5 + 1) (x6 - ml x x5) ?_ (by omega) (by omega) (by omega) (by omega) (by omega)
          rw [mon_succ h2]; omega
    · rw [if_neg (by simpa using hy)]
      exact ⟨x5, x6, rfl, h1, h2, h3, h5, by omega⟩
theorem dateOf_ok {day : Int} (h1 : -40001 ≤ day) (h2 : day ≤ 4001) : ∃ g, swimmer_dateOf day = some g ∧ IsD g day := by
  unfold swimmer_dateOf
  simp only [join_eq]
  obtain ⟨x, y, e1, a1, a2, a3, a4⟩ := out_l1 day _ h1 ((0 - day).toNat + 1) 2024 day (by simp [jan1]) (by omega) (by omega) (by omega)
  rw [e1]
  have hx : 1800 ≤ x := by unfold jan1 at a1; omega
  rw [yearLong_eq (by omega)]
  obtain ⟨x', y', e2, b1, b2, b3, b4, b5⟩ := out_l2 day _ ((y - yl x).toNat + 1) x y a1 hx (by omega) a3 (by omega)
  rw [e2]
  rw [long_eq (by omega) (by omega) (by omega)]
  obtain ⟨m, d, e3, c1, c2, c3, c4, c5⟩ := out_l3 x' y' (by omega) b5 _ 12 ((y' - ml x' 1).toNat + 1) 1 y' (by rw [mon_one]; omega) (by omega) (by omega) (by omega) b4 (by omega)
  rw [e3]
  have hm := ml_rng x' m
  rw [W_in (by omega) (by omega)]
  exact ⟨_, rfl, c2, c3, by simp only; omega, by simp only; omega, by simp only; omega⟩
end Go.Proofs.YtkpjakcepffimaaGreatDoor
