/- The program's day of a date is the reference's. Conditions: the twins of package swimmer and of the reference. -/
import Derived.Test.YtkpjakcepffimaaGreatDoorPDateT
namespace Go.Proofs.YtkpjakcepffimaaGreatDoor
open Go
def numD (g : GDate) : Int := jan1 g.Year + mon g.Year g.Month + g.Day - 1
theorem dayOf_l1 (g : GDate) (h0 : 0 ≤ g.Year) (h12 : g.Month ≤ 12) (j : Int → Option (Int × Int)) (hd : 0 ≤ g.Day ∧ g.Day ≤ 31) : ∀ (m : Nat) (x2 x3 : Int), x2 = g.Day - 1 + mon g.Year x3 → 1 ≤ x3 → x3 ≤ g.Month → g.Month - x3 < (m : Int) →
    swimmer_DayOf_l1 g j (m + 1) x2 x3 = j (g.Day - 1 + mon g.Year g.Month)
  | m, x2, x3, h1, h2, h3, h4 => by
    rw [swimmer_DayOf_l1]
    by_cases h : x3 < g.Month
    · rw [if_pos (decide_eq_true h), long_eq h0 h2 (by omega)]
      have hr := ml_rng g.Year x3
      have hy := yl_pos g.Year
      have hb := mon_year (y := g.Year) h2 (by omega)
      have hp : 0 ≤ mon g.Year x3 := by unfold mon; omega
      rw [W_in (n := x3 + 1) (by omega) (by omega), W_in (by omega) (by omega)]
      cases m with
      | zero => omega
      | succ m => exact dayOf_l1 g h0 h12 j hd m _ _ (by rw [mon_succ h2]; omega) (by omega) (by omega) (by omega)
    · rw [if_neg (by simpa using h)]
      have : x3 = g.Month := by omega
      rw [h1, this]
theorem dayOf_l2 (g : GDate) (hY : g.Year ≤ 2100) (j : Int → Option (Int × Int)) : ∀ (m : Nat) (x4 x5 : Int), 0 ≤ x5 → x4 + 366 * (g.Year - x5) ≤ 1000000 → -1000000 ≤ x4 → x4 ≤ 1000000 → g.Year - x5 < (m : Int) →
    swimmer_DayOf_l2 g j (m + 1) x4 x5 = j (if x5 ≤ g.Year then x4 + (jan1 g.Year - jan1 x5) else x4)
  | m, x4, x5, h1, h2, h3, h5, h4 => by
    rw [swimmer_DayOf_l2]
    by_cases h : x5 < g.Year
    · have hy := yl_pos x5
      rw [if_pos (decide_eq_true h), yearLong_eq h1, W_in (n := x5 + 1) (by omega) (by omega), W_in (by omega) (by omega)]
      cases m with
      | zero => omega
      | succ m =>
        rw [dayOf_l2 g hY j m _ _ (by omega) (by omega) (by omega) (by omega) (by omega), if_pos (by omega), if_pos (by omega), jan1_succ]
        congr 1; omega
    · rw [if_neg (by simpa using h)]
      by_cases h' : x5 ≤ g.Year
      · have : x5 = g.Year := by omega
        rw [if_pos h', this]; congr 1; omega
      · rw [if_neg h']
theorem dayOf_l3 (j : Int → Option (Int × Int)) : ∀ (m : Nat) (x6 x7 : Int), 0 ≤ x7 → -1000000 ≤ x6 - 366 * (2024 - x7) → -1000000 ≤ x6 → x6 ≤ 1000000 → x7 ≤ 100000 → 2024 - x7 < (m : Int) →
    swimmer_DayOf_l3 j (m + 1) x6 x7 = j (if x7 ≤ 2024 then x6 + jan1 x7 else x6)
  | m, x6, x7, h1, h2, h3, h5, h6, h4 => by
    rw [swimmer_DayOf_l3]
    by_cases h : x7 < 2024
    · have hy := yl_pos x7
      rw [if_pos (decide_eq_true h), yearLong_eq h1, W_in (n := x7 + 1) (by omega) (by omega), W_in (by omega) (by omega)]
      cases m with
      | zero => omega
      | succ m =>
        rw [dayOf_l3 j m _ _ (by omega) (by omega) (by omega) (by omega) (by omega) (by omega), if_pos (by omega), if_pos (by omega), jan1_succ]
        congr 1; omega
    · rw [if_neg (by simpa using h)]
      by_cases h' : x7 ≤ 2024
      · have : x7 = 2024 := by omega
        rw [if_pos h', this]; congr 1; simp [jan1]
      · rw [if_neg h']
def dayD (g : GDate) : Int × Int := if (1 ≤ g.Month ∧ g.Month ≤ 12 ∧ 1 ≤ g.Day ∧ g.Day ≤ ml g.Year g.Month) ∧ 1914 ≤ g.Year ∧ g.Year ≤ 2036 ∧ -40000 ≤ numD g ∧ numD g ≤ 4000 then (numD g, 0) else (0, 1)
theorem dayOf_ok (g : GDate) : swimmer_DayOf g = some (dayD g) := by
  unfold swimmer_DayOf
  simp only [join_eq, words_Within]
  by_cases hy : 1900 ≤ g.Year ∧ g.Year ≤ 2100
  · by_cases hm : 1 ≤ g.Month ∧ g.Month ≤ 12
    · rw [if_neg (by simp [hy.1, hy.2]), if_neg (by simp [hm.1, hm.2]), long_eq (by omega) hm.1 hm.2]
      have hr := ml_rng g.Year g.Month
      by_cases hd : 1 ≤ g.Day ∧ g.Day ≤ ml g.Year g.Month
      · rw [if_neg (by simp [hd.1, hd.2])]
        have hI : IsD g (numD g) := ⟨hm.1, hm.2, hd.1, hd.2, rfl⟩
        have hp : 0 ≤ mon g.Year g.Month := by unfold mon; omega
        have hb := mon_year (y := g.Year) hm.1 hm.2
        have hyl := yl_pos g.Year
        rw [W_in (by omega) (by omega), dayOf_l1 g (by omega) hm.2 _ (by omega) ((g.Month - 1).toNat + 1) _ _ (by rw [mon_one]; omega) (by omega) hm.1 (by omega)]
        rw [dayOf_l2 g hy.2 _ ((g.Year - 2024).toNat + 1) _ _ (by omega) (by omega) (by omega) (by omega) (by omega)]
        have hj : jan1 2024 = 0 := by simp [jan1]
        have hbig : jan1 g.Year ≤ 100000 ∧ -100000 ≤ jan1 g.Year := by unfold jan1; omega
        rw [dayOf_l3 _ ((2024 - g.Year).toNat + 1) _ _ (by omega) (by split <;> omega) (by split <;> omega) (by split <;> omega) (by omega) (by omega)]
        have hn : (if g.Year ≤ 2024 then (if 2024 ≤ g.Year then g.Day - 1 + mon g.Year g.Month + (jan1 g.Year - jan1 2024) else g.Day - 1 + mon g.Year g.Month) + jan1 g.Year
            else (if 2024 ≤ g.Year then g.Day - 1 + mon g.Year g.Month + (jan1 g.Year - jan1 2024) else g.Day - 1 + mon g.Year g.Month)) = numD g := by
          unfold numD
          by_cases h1 : g.Year ≤ 2024
          · by_cases h2 : 2024 ≤ g.Year
            · have : g.Year = 2024 := by omega
              rw [this, if_pos (by omega), if_pos (by omega), hj]; omega
            · rw [if_pos h1, if_neg h2]; omega
          · rw [if_neg h1, if_pos (by omega), hj]; omega
        rw [hn]
        unfold swimmer_isDay words_Within dayD
        by_cases hin : -40000 ≤ numD g ∧ numD g ≤ 4000
        · have hyy := year_rng hI (by omega) (by omega)
          rw [if_neg (by simp [hin.1, hin.2]), if_pos ⟨⟨hm.1, hm.2, hd.1, hd.2⟩, by omega, by omega, hin.1, hin.2⟩]
        · rw [if_pos (by simp; omega), if_neg (fun h => hin ⟨h.2.2.2.1, h.2.2.2.2⟩)]
      · rw [if_pos (by simp; omega)]
        unfold dayD
        rw [if_neg (fun h => hd ⟨h.1.2.2.1, h.1.2.2.2⟩)]
    · rw [if_neg (by simp [hy.1, hy.2]), if_pos (by simp; omega)]
      unfold dayD
      rw [if_pos trivial, if_neg (fun h => hm ⟨h.1.1, h.1.2.1⟩)]
  · rw [if_pos (by simp; omega)]
    unfold dayD
    rw [if_pos trivial, if_pos trivial, if_neg (fun h => hy ⟨by omega, by omega⟩)]
end Go.Proofs.YtkpjakcepffimaaGreatDoor
