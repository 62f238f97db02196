/- The reference's day of a date. No program stands here but its twins. -/
import Derived.Test.YtkpjakcepffimaaGreatDoorPDayOf
import Derived.Test.YtkpjakcepffimaaGreatDoorPDateR
namespace Go.Proofs.YtkpjakcepffimaaGreatDoor
open Go
theorem dayFor_l (g : GDate) (hI : IsD g (numD g)) (j : Int → Option (Int × Int)) : ∀ (m : Nat) (low high : Int), -40000 ≤ low → low ≤ high → high ≤ 4000 → low ≤ max (-40000) (min (numD g) 4000) → max (-40000) (min (numD g) 4000) ≤ high → high - low < (m : Int) →
    tumbref2_DayFor_l1 g j (m + 1) low high = j (max (-40000) (min (numD g) 4000))
  | m, low, high, h1, h2, h3, h4, h5, h6 => by
    rw [tumbref2_DayFor_l1]
    by_cases h : low < high
    · rw [if_pos (decide_eq_true h)]
      simp only [join_eq]
      have hq : Int.tdiv (high - low) 2 = (high - low) / 2 := Int.tdiv_eq_ediv_of_nonneg (by omega)
      rw [W_in (n := high - low) (by omega) (by omega), hq, W_in (n := (high - low) / 2) (by omega) (by omega), W_in (n := low + (high - low) / 2) (by omega) (by omega), W_in (n := low + (high - low) / 2 + 1) (by omega) (by omega)]
      obtain ⟨d, e1, hd⟩ := dateFor_ok (day := low + (high - low) / 2) (by omega) (by omega)
      obtain ⟨z, e2, hz, _⟩ := dateOrder_eq d g
      rw [e1]; simp only [Option.bind_some]; rw [e2]; simp only [Option.bind_some]
      have hlt := hd.dlt hI
      cases m with
      | zero => omega
      | succ m =>
        by_cases hz0 : 0 ≤ z
        · rw [if_pos (decide_eq_true hz0)]
          have : ¬ dLt d g := fun h' => by have := hz.2 h'; omega
          rw [hlt] at this
          exact dayFor_l g hI j m _ _ h1 (by omega) (by omega) h4 (by omega) (by omega)
        · rw [if_neg (by simpa using hz0)]
          have := hlt.1 (hz.1 (by omega))
          exact dayFor_l g hI j m _ _ (by omega) (by omega) h3 (by omega) h5 (by omega)
    · rw [if_neg (by simpa using h)]
      congr 1; omega
theorem dayFor_ok (g : GDate) : tumbref2_DayFor g = some (dayD g) := by
  unfold tumbref2_DayFor
  simp only [join_eq, tumbref2_in]
  by_cases hy : 1914 ≤ g.Year ∧ g.Year ≤ 2036
  · by_cases hm : 1 ≤ g.Month ∧ g.Month ≤ 12
    · rw [if_neg (by simp [hy.1, hy.2]), if_neg (by simp [hm.1, hm.2]), monthLong_eq (by omega) hm.1 hm.2]
      simp only [Option.bind_some]
      by_cases hd : 1 ≤ g.Day ∧ g.Day ≤ ml g.Year g.Month
      · rw [if_neg (by simp [hd.1, hd.2])]
        have hI : IsD g (numD g) := ⟨hm.1, hm.2, hd.1, hd.2, rfl⟩
        rw [dayFor_l g hI _ 44001 _ _ (by omega) (by omega) (by omega) (by omega) (by omega) (by omega)]
        obtain ⟨d, e1, h1⟩ := dateFor_ok (day := max (-40000) (min (numD g) 4000)) (by omega) (by omega)
        rw [e1]; simp only [Option.bind_some]
        unfold dayD
        by_cases hin : -40000 ≤ numD g ∧ numD g ≤ 4000
        · have hT : max (-40000) (min (numD g) 4000) = numD g := by omega
          rw [hT] at h1 ⊢
          rw [if_neg (by simp [h1.uniq hI]), if_pos ⟨⟨hm.1, hm.2, hd.1, hd.2⟩, hy.1, hy.2, hin.1, hin.2⟩]
        · rw [if_pos, if_neg (fun h => hin ⟨h.2.2.2.1, h.2.2.2.2⟩)]
          simp only [Bool.not_eq_true', decide_eq_false_iff_not]
          rintro rfl
          have := h1.num; have := hI.num; omega
      · rw [if_pos (by simp; omega)]
        unfold dayD
        rw [if_neg (fun h => hd ⟨h.1.2.2.1, h.1.2.2.2⟩)]
    · rw [if_neg (by simp [hy.1, hy.2]), if_pos (by simp; omega)]
      unfold dayD
      rw [if_pos trivial, if_neg (fun h => hm ⟨h.1.1, h.1.2.1⟩)]
  · rw [if_pos (by simp; omega)]
    unfold dayD
    rw [if_pos trivial, if_pos trivial, if_neg (fun h => hy ⟨h.2.1, h.2.2.1⟩)]
end Go.Proofs.YtkpjakcepffimaaGreatDoor
