/- The reference's dates are the days' dates, and so are its days. Conditions: the twins of package swimmer and of the reference. -/
import Derived.Test.YtkpjakcepffimaaGreatDoorPDateT
namespace Go.Proofs.YtkpjakcepffimaaGreatDoor
open Go
theorem monthLong_eq {y m : Int} (h : 0 ≤ y) (h1 : 1 ≤ m) (h2 : m ≤ 12) : tumbref2_monthLong y m = some (ml y m) := by
  unfold tumbref2_monthLong ml mlN
  rw [tmod_pos h, tmod_pos h, tmod_pos h]
  have hl : lp y = ((decide (y % 4 = 0) && !decide (y % 100 = 0)) || decide (y % 400 = 0)) := by
    unfold lp
    by_cases g1 : y % 4 = 0 <;> by_cases g2 : y % 100 = 0 <;> by_cases g3 : y % 400 = 0 <;> simp [g1, g2, g3] <;> omega
  rw [← hl]
  rcases twelve h1 h2 with rfl | rfl | rfl | rfl | rfl | rfl | rfl | rfl | rfl | rfl | rfl | rfl <;> cases lp y <;> first | rfl | decide +kernel
theorem next_eq {g : GDate} {n : Int} (h : IsD g n) (h1 : 0 ≤ g.Year) (h2 : g.Year ≤ 10000) : tumbref2_next g = some (nextD g) := by
  obtain ⟨y, m, d⟩ := g
  have a1 := h.m1; have a2 := h.m12; have a3 := h.d1; have a4 := h.dl
  simp only at h1 h2 a1 a2 a3 a4
  have hr := ml_rng y m
  unfold tumbref2_next nextD
  rw [monthLong_eq h1 a1 a2]
  simp only [Option.bind_some, join_eq]
  rw [W_in (by omega) (by omega), W_in (n := m + 1) (by omega) (by omega), W_in (n := y + 1) (by omega) (by omega)]
  by_cases hd : d < ml y m
  · rw [if_neg (by simp only [decide_eq_true_eq]; omega), if_pos hd]
  · rw [if_pos (by simp only [decide_eq_true_eq]; omega), if_neg hd]
    by_cases hm : m < 12
    · rw [if_neg (by simp only [decide_eq_true_eq]; omega), if_pos hm]
    · rw [if_pos (by simp only [decide_eq_true_eq]; omega), if_neg hm]
theorem dateFor_l (day : Int) (hd : day ≤ 4001) (j : Int → Int → Int → Option GDate) : ∀ (m : Nat) (y mo d n : Int), IsD ⟨y, mo, d⟩ n → -40001 ≤ n → n ≤ day → day - n < (m : Int) →
    ∃ g, tumbref2_DateFor_l1 day j (m + 1) y mo d n = j g.Year g.Month g.Day ∧ IsD g day
  | m, y, mo, d, n, h, h1, h2, h3 => by
    have hy := year_rng h h1 (by omega)
    have a1 := h.m1; have a2 := h.m12; have a3 := h.d1; have a4 := h.dl
    simp only at hy a1 a2 a3 a4
    have hr := ml_rng y mo
    rw [tumbref2_DateFor_l1]
    by_cases hn : n < day
    · rw [if_pos (decide_eq_true hn), monthLong_eq (by omega) a1 a2]
      simp only [Option.bind_some, join_eq]
      rw [W_in (n := ml y mo - d) (by omega) (by omega), W_in (n := n + (ml y mo - d)) (by omega) (by omega), W_in (n := n + (ml y mo - d) + 1) (by omega) (by omega), W_in (n := ml y mo - d + 1) (by omega) (by omega),
        W_in (n := n + (ml y mo - d + 1)) (by omega) (by omega), W_in (n := day - n) (by omega) (by omega), W_in (n := day - n - 1) (by omega) (by omega)]
      cases m with
      | zero => omega
      | succ m =>
        by_cases hc : n + (ml y mo - d) + 1 ≤ day
        · rw [if_pos (decide_eq_true hc)]
          have h' : IsD ⟨y, mo, ml y mo⟩ (n + (ml y mo - d)) := ⟨a1, a2, by simp only; omega, by simp only; omega, by have := h.num; simp only at this ⊢; omega⟩
          rw [next_eq h' (by simp only; omega) (by simp only; omega)]
          simp only [Option.bind_some]
          have h'' := h'.next
          exact dateFor_l day hd j m _ _ _ _ (show IsD ⟨(nextD ⟨y, mo, ml y mo⟩).Year, (nextD ⟨y, mo, ml y mo⟩).Month, (nextD ⟨y, mo, ml y mo⟩).Day⟩ (n + (ml y mo - d + 1)) by
            rw [show n + (ml y mo - d + 1) = n + (ml y mo - d) + 1 by omega]; exact h'') (by omega) (by omega) (by omega)
        · rw [if_neg (by simpa using hc)]
          rw [W_in (by omega) (by omega)]
          have h' : IsD ⟨y, mo, d + (day - n - 1)⟩ (day - 1) := ⟨a1, a2, by simp only; omega, by simp only; omega, by have := h.num; simp only at this ⊢; omega⟩
          rw [next_eq h' (by simp only; omega) (by simp only; omega)]
          simp only [Option.bind_some]
          have h'' := h'.next
          rw [show day - 1 + 1 = day by omega] at h''
          exact dateFor_l day hd j m _ _ _ _ (show IsD ⟨(nextD ⟨y, mo, d + (day - n - 1)⟩).Year, (nextD ⟨y, mo, d + (day - n - 1)⟩).Month, (nextD ⟨y, mo, d + (day - n - 1)⟩).Day⟩ day from h'') (by omega) (by omega) (by omega)
    · rw [if_neg (by simpa using hn)]
      have : n = day := by omega
      subst this
      exact ⟨⟨y, mo, d⟩, rfl, h⟩
theorem past_ok : IsD tumbref2_pastDate (-40000) := ⟨by decide +kernel, by decide +kernel, by decide +kernel, by decide +kernel, by decide +kernel⟩
theorem dateFor_ok {day : Int} (h1 : -40000 ≤ day) (h2 : day ≤ 4001) : ∃ g, tumbref2_DateFor day = some g ∧ IsD g day := by
  unfold tumbref2_DateFor
  simp only [join_eq]
  obtain ⟨g, e, h⟩ := dateFor_l day h2 (fun x1 x2 x3 => some (GDate.mk x1 x2 x3)) ((day - (-40000)).toNat + 1) _ _ _ (-40000) past_ok (by omega) h1 (by omega)
  exact ⟨g, e, h⟩
theorem dates_eq {day : Int} (h1 : -40000 ≤ day) (h2 : day ≤ 4001) : ∃ g, swimmer_dateOf day = some g ∧ tumbref2_DateFor day = some g ∧ IsD g day := by
  obtain ⟨g, e, h⟩ := dateOf_ok (by omega : -40001 ≤ day) h2
  obtain ⟨g', e', h'⟩ := dateFor_ok h1 h2
  have := h.uniq h'
  subst this
  exact ⟨g, e, e', h⟩
theorem compare_int (x y : Int) : cmp_Compare_int x y = if x < y then -1 else if y < x then 1 else 0 := by
  unfold cmp_Compare_int cmp_isNaN_int
  simp
theorem dateOrder_eq (a b : GDate) : ∃ z, tumbref2_dateOrder a b = some z ∧ (z < 0 ↔ dLt a b) ∧ (0 < z ↔ dLt b a) := by
  obtain ⟨y, m, d⟩ := a; obtain ⟨y', m', d'⟩ := b
  unfold tumbref2_dateOrder slices_Compare_int
  simp only [join_eq, slices_Compare_int_l1, compare_int, List.length_cons, List.length_nil, nth, dLt]
  rw [chk_pos (by decide), chk_pos (by decide), chk_pos (by decide)]
  simp only [show ((0 : Nat) : Int).toNat = 0 from rfl, show ((0 + 1 : Nat) : Int).toNat = 1 from rfl, show ((0 + 1 + 1 : Nat) : Int).toNat = 2 from rfl, List.getD_cons_zero, List.getD_cons_succ]
  by_cases h1 : y < y'
  · exact ⟨-1, by simp [h1], by omega, by omega⟩
  · by_cases h2 : y' < y
    · exact ⟨1, by simp [h1, h2], by omega, by omega⟩
    · have : y = y' := by omega
      subst this
      by_cases h3 : m < m'
      · exact ⟨-1, by simp [h3], by omega, by omega⟩
      · by_cases h4 : m' < m
        · exact ⟨1, by simp [h3, h4], by omega, by omega⟩
        · have : m = m' := by omega
          subst this
          by_cases h5 : d < d'
          · exact ⟨-1, by simp [h5], by omega, by omega⟩
          · by_cases h6 : d' < d
            · exact ⟨1, by simp [h5, h6], by omega, by omega⟩
            · have : d = d' := by omega
              subst this
              exact ⟨0, by simp, by omega, by omega⟩
end Go.Proofs.YtkpjakcepffimaaGreatDoor
