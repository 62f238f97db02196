/- The plain law of FasterIsMore. No program stands here but its twins. -/
import Derived.Test.YtflmpbghcgplmaaDoorPPoints
import Derived.Test.YtflmpbghcgplmaaDoorPStr
import Derived.Test.YtflmpbghcgplmaaDoorPReady
namespace Go.Proofs.YtflmpbghcgplmaaDoor
open Go
section
variable {b : Int} (h1 : 1 ≤ b) (h2 : b ≤ 20000)
include h1 h2
theorem base_ok : points_CheckBase [⟨k_r, b⟩] = some 0 ∧ points_baseOf [⟨k_r, b⟩] k_r = b := by
  constructor
  · unfold points_CheckBase
    rw [if_neg (by simp), join_eq, points_CheckBase_l1, show words_IsKey k_r = some true by decide +kernel]
    have : timing_IsTime b = true := by unfold timing_IsTime words_Within; simp; omega
    simp only [Option.bind_some, Bool.not_true, Bool.false_eq_true, if_false, join_eq, this]
    rfl
  · unfold points_baseOf
    rw [join_eq, points_baseOf_l1, if_pos (by simp)]
theorem byT {t : Int} (h3 : 1 ≤ t) (h4 : t ≤ 360000) : points_ByTime [⟨k_r, b⟩] k_r t = some (pts b t, 0) := by
  obtain ⟨g1, g2⟩ := base_ok h1 h2
  unfold points_ByTime
  have : timing_IsTime t = true := by unfold timing_IsTime words_Within; simp; omega
  rw [g1, g2, this, byTime_eq h1 h2 h3 h4]
  simp only [Option.bind_some, decide_true, Bool.not_true, Bool.false_eq_true, if_false]
  rw [if_neg (by simp; omega)]
theorem search (w : Int) (j : Int → Option (Int × Bool × Int)) : ∀ (m : Nat) (x y : Int), 1 ≤ x → x ≤ y → y ≤ 360000 → y - x < (m : Int) → w ≤ pts b x → (y = 360000 ∨ pts b (y + 1) < w) →
    ∃ z, points_TimeFor_l1 [⟨k_r, b⟩] k_r w j m x y = j z ∧ 1 ≤ z ∧ z ≤ 360000 ∧ w ≤ pts b z ∧ (z = 360000 ∨ pts b (z + 1) < w)
  | 0, x, y, _, hxy, _, h, _, _ => absurd h (by omega)
  | m + 1, x, y, hx, hxy, hy, hm, hw, hn => by
    obtain ⟨_, g2⟩ := base_ok h1 h2
    rw [points_TimeFor_l1]
    by_cases hc : x < y
    · rw [if_pos (decide_eq_true hc), g2]
      rw [W_in (n := x + y) (by omega) (by omega), W_in (n := x + y + 1) (by omega) (by omega), Int.tdiv_eq_ediv_of_nonneg (by omega), W_in (n := (x + y + 1) / 2) (by omega) (by omega), W_in (n := (x + y + 1) / 2 - 1) (by omega) (by omega)]
      rw [byTime_eq h1 h2 (t := (x + y + 1) / 2) (by omega) (by omega)]
      simp only [Option.bind_some, join_eq]
      by_cases hp : w ≤ pts b ((x + y + 1) / 2)
      · rw [if_pos (decide_eq_true hp)]
        exact search w j m _ _ (by omega) (by omega) hy (by omega) hp hn
      · rw [if_neg (by simpa using hp)]
        exact search w j m _ _ hx (by omega) (by omega) (by omega) hw (.inr (by rw [show (x + y + 1) / 2 - 1 + 1 = (x + y + 1) / 2 by omega]; omega))
    · rw [if_neg (by simpa using hc)]
      have : x = y := by omega
      subst this
      exact ⟨x, rfl, hx, hy, hw, hn⟩
theorem timeFor (w : Int) (hw1 : 1 ≤ w) (hw2 : w ≤ 2000) : (pts b 1 < w ∧ points_TimeFor [⟨k_r, b⟩] k_r w = some (0, false, 0)) ∨
    ∃ z, points_TimeFor [⟨k_r, b⟩] k_r w = some (z, true, 0) ∧ 1 ≤ z ∧ z ≤ 360000 ∧ w ≤ pts b z ∧ (z = 360000 ∨ pts b (z + 1) < w) := by
  obtain ⟨g1, g2⟩ := base_ok h1 h2
  unfold points_TimeFor
  have hin : words_Within w 1 1000000 = true := by unfold words_Within; simp; omega
  rw [g1, g2, hin, byTime_eq h1 h2 (t := 1) (by omega) (by omega)]
  simp only [Option.bind_some, decide_true, Bool.not_true, Bool.false_eq_true, if_false, join_eq]
  rw [if_neg (by simp; omega)]
  by_cases hp : pts b 1 < w
  · exact .inl ⟨hp, by rw [if_pos (decide_eq_true hp)]⟩
  · rw [if_neg (by simpa using hp)]
    obtain ⟨z, e, q⟩ := search h1 h2 w (fun x1 => some (x1, true, 0)) 360001 1 360000 (by omega) (by omega) (by omega) (by omega) (by omega) (.inl rfl)
    exact .inr ⟨z, e, q⟩
end
theorem plain_FasterIsMore (l : List Int) (hl : l.length ≤ 9223372036854775807) : tumbkeep2_FasterIsMore l = some true := by
  have hL : LongL l := by unfold LongL; omega
  obtain ⟨b, a1, e1, p1, q1, b1, b2⟩ := range_dr hL (a := 0) (by omega) (by omega) 1 20000 (by omega) (by omega) (by omega)
  obtain ⟨t, a2, e2, p2, q2, t1, t2⟩ := range_dr hL (a := a1) (by omega) (by omega) 1 40000 (by omega) (by omega) (by omega)
  obtain ⟨d, a3, e3, p3, q3, d1, d2⟩ := range_dr hL (a := a2) (by omega) (by omega) 0 1000 (by omega) (by omega) (by omega)
  obtain ⟨w, a4, e4, p4, q4, w1, w2⟩ := range_dr hL (a := a3) (by omega) (by omega) 1 2000 (by omega) (by omega) (by omega)
  have hb : b ≤ 20000 := by omega
  have he0 : tumbkeep2_errs [0, 0] = 0 := by decide +kernel
  unfold tumbkeep2_FasterIsMore
  rw [e1]; simp only [Option.bind_some]
  rw [e2]; simp only [Option.bind_some]
  rw [byT b1 hb (t := t) (by omega) (by omega)]; simp only [Option.bind_some]
  rw [e3]; simp only [Option.bind_some]
  rw [W_in (n := t + d) (by omega) (by omega), byT b1 hb (t := t + d) (by omega) (by omega)]; simp only [Option.bind_some]
  have hm := pts_mono (b := b) (t := t) (k := t + d) b1 (by omega) (by omega)
  simp only [he0, decide_true, Bool.not_true, Bool.false_or]
  rw [if_neg (by simpa using hm), e4]; simp only [Option.bind_some]
  rcases timeFor b1 hb w w1 (by omega) with ⟨hp, e5⟩ | ⟨z, e5, z1, z2, z3, z4⟩
  · rw [e5]; simp only [Option.bind_some, decide_true, Bool.not_true, Bool.not_false, Bool.false_eq_true, if_false, if_true]
    rw [byT b1 hb (t := 1) (by omega) (by omega)]
    simp [hp, ready_ok, join_eq]
  · rw [e5]; simp only [Option.bind_some, decide_true, Bool.not_true, Bool.false_eq_true, if_false]
    rw [byT b1 hb (t := z) z1 z2]
    simp only [Option.bind_some, decide_true, Bool.not_true, Bool.false_or]
    rw [if_neg (by simpa using z3)]
    by_cases hz : z < 360000
    · rw [if_pos (decide_eq_true hz), W_in (n := z + 1) (by omega) (by omega), byT b1 hb (t := z + 1) (by omega) (by omega)]
      have : pts b (z + 1) < w := by omega
      simp [this, ready_ok, join_eq]
    · rw [if_neg (by simpa using hz), ready_ok]; rfl
end Go.Proofs.YtflmpbghcgplmaaDoor
