/- The plain law of RanksBringPoints. No program stands here but its twins. -/
import Derived.Test.YtmdjmbbmlohnlaaGreatDoorPRanksS
import Derived.Test.YtmdjmbbmlohnlaaGreatDoorPErrs
namespace Go.Proofs.YtmdjmbbmlohnlaaGreatDoor
open Go
theorem pointed_ok : tumblaw2_pointed = some true := by decide +kernel
theorem eq_given (l : List GGiven) : ∀ (ys dn : List GGiven), l = dn ++ ys → slices_Equal_Given_l1 l (some true) ys dn.length = some true := by
  intro ys
  induction ys with
  | nil => intro dn _; rfl
  | cons y ys ih =>
    intro dn h
    rw [slices_Equal_Given_l1]
    have hn : nth l (dn.length : Int) = y := by unfold nth; rw [h]; simp
    rw [chk_pos (by rw [inB_iff, h]; simp; omega), hn, if_neg (by simp)]
    have := ih (dn ++ [y]) (by rw [h]; simp)
    rwa [List.length_append, List.length_singleton] at this
theorem equal_given (l : List GGiven) : slices_Equal_Given l l = some true := by
  unfold slices_Equal_Given
  rw [if_neg (by simp)]
  exact eq_given l l [] rfl
theorem plain_RanksBringPoints (l : List Int) (hl : l.length ≤ 9223372036854775807) : tumblaw2_RanksBringPoints l = some true := by
  have hL : LongL l := by unfold LongL; omega
  obtain ⟨t, a1, e1, p1, q1, _⟩ := anyTable_dr hL (a := 0) (by omega) (by omega)
  obtain ⟨x, a2, e2, p2, q2, hx⟩ := anyScored_dr hL (a := a1) (by omega) (by omega)
  obtain ⟨te, t1, t2, t3⟩ := table_eq t
  obtain ⟨se, s1, s2, _⟩ := scored_eq x (by have := hx.len; omega)
  have hboth : points_checkBoth t x = some (tumblaw2_errs [te, se]) := by
    unfold points_checkBoth
    rw [t1, s1, errs_cons, errs_cons, errs_nil]
    simp only [Option.bind_some]
    by_cases h : te = 0
    · by_cases h2 : se = 0 <;> simp [h, h2]
    · simp [h]
  unfold tumblaw2_RanksBringPoints
  rw [e1]; simp only [Option.bind_some]
  rw [e2]; simp only [Option.bind_some]
  by_cases he : tumblaw2_errs [te, se] = 0
  · have hte : te = 0 := by
      rw [errs_cons] at he; by_cases h : te = 0
      · exact h
      · simp [h] at he
    have hse : se = 0 := by
      rw [errs_cons, errs_cons, errs_nil] at he; by_cases h : se = 0
      · exact h
      · simp [hte, h] at he
    have hb0 : points_checkBoth t x = some 0 := by rw [hboth, he]
    obtain ⟨R, hR⟩ := rows_right (t3 hte) hx.len (by rw [s2, hse])
    obtain ⟨G, g1, g2⟩ := given_is hR hb0 hx.size
    obtain ⟨C, c1, c2⟩ := clubs_law hR hb0 (k_A :: clubP) (by decide) hx.club
    obtain ⟨S, w1, w2⟩ : ∃ S, points_Swimmers t x = some (S, 0) ∧ tumbref2_SwimmerSums t x = some S := by
      rcases hx.who with h | h
      · exact swim_law hR hb0 (x.map (·.Who)) (by simpa using h) (fun y hy => List.mem_map_of_mem hy)
      · exact swim_law hR hb0 (k_A :: fiveP) (by decide) h
    obtain ⟨A, b1, b2⟩ := all_is hR hb0
    rw [g1, c1, w1, b1, t1, t2, s1, s2, g2, c2, w2, b2]
    simp only [Option.bind_some, join_eq, he, equal_given, pointed_ok, decide_true, Bool.not_true, Bool.or_self, Bool.false_eq_true, if_false, if_true]
  · have hg : points_Given t x = some ([], tumblaw2_errs [te, se]) := by
      unfold points_Given; rw [hboth, Option.bind_some, if_pos (by simpa using he)]
    have hc : points_Clubs t x = some ([], tumblaw2_errs [te, se]) := by
      unfold points_Clubs; rw [hboth, Option.bind_some, if_pos (by simpa using he)]
    have hw : points_Swimmers t x = some ([], tumblaw2_errs [te, se]) := by
      unfold points_Swimmers; rw [hboth, Option.bind_some, if_pos (by simpa using he)]
    have ha : points_All t x = some (GFraction.mk 0 0, tumblaw2_errs [te, se]) := by
      unfold points_All; rw [hboth, Option.bind_some, if_pos (by simpa using he)]
    have hW : W (W ((([] : List GGiven).length : Int) + (([] : List GGiven).length : Int)) + (([] : List GGiven).length : Int)) = 0 := by decide
    rw [hg, hc, hw, ha, t1, t2, s1, s2]
    simp only [Option.bind_some, join_eq, pointed_ok, decide_true, Bool.not_true, Bool.or_self, Bool.false_eq_true, if_false, if_true, hW, Bool.and_self, decide_eq_false he, Bool.not_false]
end Go.Proofs.YtmdjmbbmlohnlaaGreatDoor
