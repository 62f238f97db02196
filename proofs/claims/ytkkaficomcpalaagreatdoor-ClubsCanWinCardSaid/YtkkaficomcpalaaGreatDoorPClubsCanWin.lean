/- The plain law of ClubsCanWin. No program stands here but its twins. -/
import Derived.Test.YtkkaficomcpalaaGreatDoorPRanksS
import Derived.Test.YtkkaficomcpalaaGreatDoorPErrs
namespace Go.Proofs.YtkkaficomcpalaaGreatDoor
open Go
theorem pointed_ok : tumblaw2_pointed = some true := by decide +kernel
theorem eq_str (l : List ByteArray) : ∀ (ys dn : List ByteArray), l = dn ++ ys → slices_Equal_string_l1 l (some true) ys dn.length = some true := by
  intro ys
  induction ys with
  | nil => intro dn _; rfl
  | cons y ys ih =>
    intro dn h
    rw [slices_Equal_string_l1]
    have hn : nth l (dn.length : Int) = y := by unfold nth; rw [h]; simp
    rw [chk_pos (by rw [inB_iff, h]; simp; omega), hn, if_neg (by simp)]
    have := ih (dn ++ [y]) (by rw [h]; simp)
    rwa [List.length_append, List.length_singleton] at this
theorem equal_str (l : List ByteArray) : slices_Equal_string l l = some true := by
  unfold slices_Equal_string
  rw [if_neg (by simp)]
  exact eq_str l l [] rfl
theorem table_most {t : GTable} (h : points_CheckTable t = some 0) : 0 ≤ t.Most := by
  unfold points_CheckTable at h
  by_cases h40 : 40 < (t.Points.length : Int)
  · rw [if_pos (decide_eq_true h40)] at h; cases h
  · have hh : decide (40 < (t.Points.length : Int)) = false := decide_eq_false h40
    simp only [join_eq, hh, Bool.false_eq_true, if_false] at h
    cases hb : ((!(words_Within t.Relay 1 10)) || (!(words_Within t.Most 0 10))) with
    | true =>
      rw [hb] at h
      simp only [if_true] at h
      obtain ⟨e, a1, _, a3⟩ := tbl_l t (by omega) 1 t.Points [] rfl
      rw [List.length_nil, h] at a1
      have := (a3 (Option.some.inj a1).symm).1
      cases this
    | false =>
      unfold words_Within at hb
      simp at hb
      omega
theorem left_l (t : GTable) (hm : 0 ≤ t.Most) (rc st rl : Int) (j : Int → Int) : ∀ (ys : List Int) (i : Nat) (x : Int), points_left_l1 rl t (if decide (0 < t.Most) then imin st t.Most else st) rc j ys i x = tumbref2_LeftOf_l1 rl t st rc j ys i x
  | [], _, _ => rfl
  | y :: ys, i, x => by
    rw [points_left_l1, tumbref2_LeftOf_l1]
    simp only [join_eq]
    have hc : decide ((i : Int) < (if decide (0 < t.Most) = true then imin st t.Most else st)) = ((decide ((i : Int) < st)) && ((decide (t.Most = 0)) || (decide ((i : Int) < t.Most)))) := by
      by_cases h0 : 0 < t.Most
      · rw [if_pos (decide_eq_true h0)]
        have : ¬ t.Most = 0 := by omega
        unfold imin
        by_cases h1 : t.Most < st
        · simp [h1, this]; omega
        · simp [h1, this]; omega
      · have : t.Most = 0 := by omega
        simp [this]
    simp only [hc, left_l t hm rc st rl j ys (i + 1)]
theorem left_eq (t : GTable) (hm : 0 ≤ t.Most) (rc st rl : Int) : points_left t rc st rl = tumbref2_LeftOf t rc st rl := by
  have h := left_l t hm rc st rl (fun x => x) t.Points 0 0
  unfold points_left tumbref2_LeftOf
  simp only [join_eq]
  rw [← h]
  split <;> rfl
theorem left_rng {t : GTable} (ht : TR t) {rc st rl : Int} (h1 : 0 ≤ rc ∧ rc ≤ 100) (h3 : 0 ≤ rl ∧ rl ≤ 100) : ∃ n : Nat, n ≤ 100000000 ∧ tumbref2_LeftOf t rc st rl = (n : Int) := by
  have gen : ∀ (ys : List Int) (i : Nat) (x : Int), (∀ y ∈ ys, 0 ≤ y ∧ y ≤ 10000) → 0 ≤ x → x + 1000000 * ys.length + (if i = 0 then 10000000 else 0) ≤ 100000000 → ∃ n : Nat, n ≤ 100000000 ∧ tumbref2_LeftOf_l1 rl t st rc (fun x => x) ys i x = (n : Int) := by
    intro ys
    induction ys with
    | nil => intro i x _ h0 hx; obtain ⟨n, rfl⟩ := Int.eq_ofNat_of_zero_le h0; exact ⟨n, by simp at hx; split at hx <;> omega, rfl⟩
    | cons y ys ih =>
      intro i x hy h0 hx
      simp only [List.length_cons] at hx
      have hyr := hy y List.mem_cons_self
      have hr := ht.rel
      have m1 : 0 ≤ rc * y := Int.mul_nonneg h1.1 hyr.1
      have m2 : rc * y ≤ 100 * 10000 := Int.mul_le_mul h1.2 hyr.2 hyr.1 (by omega)
      have m3 : 0 ≤ rl * t.Relay := Int.mul_nonneg h3.1 (by omega)
      have m4 : rl * t.Relay ≤ 100 * 10 := Int.mul_le_mul h3.2 hr.2 (by omega) (by omega)
      have m5 : 0 ≤ rl * t.Relay * y := Int.mul_nonneg m3 hyr.1
      have m6 : rl * t.Relay * y ≤ 1000 * 10000 := Int.mul_le_mul (by omega) hyr.2 hyr.1 (by omega)
      have hys := fun z hz => hy z (List.mem_cons_of_mem y hz)
      rw [tumbref2_LeftOf_l1]
      simp only [join_eq]
      rw [W_in (n := rl * t.Relay) (by omega) (by omega), W_in (n := rl * t.Relay * y) (by omega) (by omega), W_in (n := rc * y) (by omega) (by omega), W_in (n := x + rc * y) (by omega) (by omega)]
      have hi : ¬ i + 1 = 0 := by omega
      by_cases h0 : i = 0
      · have hd : decide ((i : Int) = 0) = true := decide_eq_true (by omega)
        rw [if_pos h0] at hx
        rw [W_in (n := x + rc * y + rl * t.Relay * y) (by omega) (by omega), W_in (n := x + rl * t.Relay * y) (by omega) (by omega)]
        simp only [hd, if_true]
        split
        · exact ih _ _ hys (by omega) (by rw [if_neg hi]; omega)
        · exact ih _ _ hys (by omega) (by rw [if_neg hi]; omega)
      · have hd : decide ((i : Int) = 0) = false := decide_eq_false (by omega)
        rw [if_neg h0] at hx
        simp only [hd, Bool.false_eq_true, if_false]
        split
        · exact ih _ _ hys (by omega) (by rw [if_neg hi]; omega)
        · exact ih _ _ hys (by omega) (by rw [if_neg hi]; omega)
  unfold tumbref2_LeftOf
  simp only [join_eq]
  have := ht.len
  exact gen t.Points 0 0 ht.rng (by omega) (by simp; omega)
theorem whole_frB (n : Nat) : (GFraction.mk (n : Int) 1) = frB (n * 2520) := by
  unfold frB
  have : Nat.gcd (n * 2520) 2520 = 2520 := Nat.gcd_eq_right (Nat.dvd_mul_left _ _)
  rw [this, Nat.mul_div_cancel _ (by omega)]; rfl
theorem idx_p (y : GGiven) (f s : GFraction) (h : points_add y.Points f = some s) : ∀ (l : List GGiven) (i : Nat), ∃ r, slices_IndexFunc_Given_points_CanWin_c1_l1 y f (some (-1)) l i = some r ∧ decide (0 ≤ r) = l.any fun z => (!decide (z.Key = y.Key)) && points_more z.Points s
  | [], i => ⟨-1, rfl, by simp⟩
  | z :: l, i => by
    rw [slices_IndexFunc_Given_points_CanWin_c1_l1]
    have hc : points_CanWin_c1 z y f = some ((!decide (z.Key = y.Key)) && points_more z.Points s) := by
      unfold points_CanWin_c1
      simp only [join_eq]
      by_cases hk : z.Key = y.Key
      · rw [if_neg (by simp [hk])]; simp [hk]
      · rw [if_pos (by simp [hk]), h, Option.bind_some]; simp [hk]
    rw [hc, Option.bind_some]
    cases hv : ((!decide (z.Key = y.Key)) && points_more z.Points s) with
    | true => rw [if_pos rfl]; exact ⟨i, rfl, by simp [hv]⟩
    | false =>
      rw [if_neg (by simp)]
      obtain ⟨r, e1, e2⟩ := idx_p y f s h l (i + 1)
      exact ⟨r, e1, by rw [e2, List.any_cons, hv, Bool.false_or]⟩
theorem idx_r (y : GGiven) (s : GFraction) : ∀ (l : List GGiven) (i : Nat), decide (0 ≤ slices_IndexFunc_Given_tumbref2_WinnersOf_c1_l1 y s (-1) l i) = l.any fun z => (!decide (z.Key = y.Key)) && points_more z.Points s
  | [], i => by simp [slices_IndexFunc_Given_tumbref2_WinnersOf_c1_l1]
  | z :: l, i => by
    rw [slices_IndexFunc_Given_tumbref2_WinnersOf_c1_l1]
    have hc : tumbref2_WinnersOf_c1 z y s = ((!decide (z.Key = y.Key)) && points_more z.Points s) := rfl
    rw [hc]
    cases hv : ((!decide (z.Key = y.Key)) && points_more z.Points s) with
    | true => rw [if_pos rfl]; simp [hv]
    | false => rw [if_neg (by simp), idx_r y s l (i + 1), List.any_cons, hv, Bool.false_or]
theorem cont_r (y : GGiven) (s : GFraction) (l : List GGiven) : slices_ContainsFunc_Given_tumbref2_WinnersOf_c1 l y s = l.any fun z => (!decide (z.Key = y.Key)) && points_more z.Points s := idx_r y s l 0
theorem cont_p (y : GGiven) (f s : GFraction) (h : points_add y.Points f = some s) (l : List GGiven) : slices_ContainsFunc_Given_points_CanWin_c1 l y f = some (l.any fun z => (!decide (z.Key = y.Key)) && points_more z.Points s) := by
  obtain ⟨r, e1, e2⟩ := idx_p y f s h l 0
  have e1' : slices_IndexFunc_Given_points_CanWin_c1 l y f = some r := e1
  unfold slices_ContainsFunc_Given_points_CanWin_c1
  rw [e1', Option.bind_some, e2]
theorem win_l (C : List GGiven) (t : GTable) (rc st rl : Int) (n : Nat) (hn : n ≤ 100000000) (h1 : points_left t rc st rl = (n : Int)) (h2 : tumbref2_LeftOf t rc st rl = (n : Int)) : ∀ (ys : List GGiven) (i : Nat) (x : List ByteArray), (∀ y ∈ ys, ∃ v, v ≤ 100000000000 ∧ y.Points = frB v) → x.length + ys.length ≤ 10000 →
    ∃ z, points_CanWin_l1 C t rc st rl (fun x1 => some (x1, 0)) ys i x = some (z, 0) ∧ tumbref2_WinnersOf_l1 C t rc st rl (fun x1 => some x1) ys i x = some z
  | [], i, x, _, _ => ⟨x, rfl, rfl⟩
  | y :: ys, i, x, h, hx => by
    simp only [List.length_cons] at hx
    obtain ⟨v, hv, e⟩ := h y List.mem_cons_self
    have hys := fun z hz => h z (List.mem_cons_of_mem y hz)
    have ha : points_add y.Points (GFraction.mk (n : Int) 1) = some (frB (v + n * 2520)) := by rw [e, whole_frB, add_frB (by omega) (by omega)]
    have hp : tumbref2_plus y.Points (GFraction.mk (n : Int) 1) = some (frB (v + n * 2520)) := by rw [e, whole_frB, plus_frB (by omega) (by omega)]
    rw [points_CanWin_l1, tumbref2_WinnersOf_l1, h1, h2, hp]
    simp only [join_eq, Option.bind_some]
    have e3 : (GFraction.mk (frB (v + n * 2520)).Num (frB (v + n * 2520)).Den) = frB (v + n * 2520) := rfl
    rw [cont_p y _ _ ha C, e3, cont_r y _ C]
    simp only [Option.bind_some]
    cases (C.any fun z => (!decide (z.Key = y.Key)) && points_more z.Points (frB (v + n * 2520))) with
    | true =>
      simp only [Bool.not_true, Bool.false_eq_true, if_false]
      exact win_l C t rc st rl n hn h1 h2 ys (i + 1) x hys (by omega)
    | false =>
      simp only [Bool.not_false, if_true]
      have hroom : room x.length = true := by unfold room; simp; omega
      rw [chk_pos hroom, chk_pos hroom]
      exact win_l C t rc st rl n hn h1 h2 ys (i + 1) _ hys (by simp; omega)
theorem plain_ClubsCanWin (l : List Int) (hl : l.length ≤ 9223372036854775807) : tumblaw2_ClubsCanWin l = some true := by
  have hL : LongL l := by unfold LongL; omega
  obtain ⟨t, a1, e1, p1, q1, _⟩ := anyTable_dr hL (a := 0) (by omega) (by omega)
  obtain ⟨x, a2, e2, p2, q2, hx⟩ := anyScored_dr hL (a := a1) (by omega) (by omega)
  obtain ⟨rc, a3, e3, p3, q3, _⟩ := pick_dr hL (a := a2) (by omega) (by omega) [0, 1, 2, (-1)] (by simp) (by simp)
  obtain ⟨st, a4, e4, p4, q4, _⟩ := pick_dr hL (a := a3) (by omega) (by omega) [0, 1, 2, 9, 11] (by simp) (by simp)
  obtain ⟨rl, a5, e5, p5, q5, _⟩ := pick_dr hL (a := a4) (by omega) (by omega) [0, 1, 2, 101] (by simp) (by simp)
  obtain ⟨te, t1, t2, t3⟩ := table_eq t
  obtain ⟨se, s1, s2, _⟩ := scored_eq x (by have := hx.len; omega)
  obtain ⟨le, hle⟩ : ∃ le, tumbref2_LeftFault rc st rl = le := ⟨_, rfl⟩
  have hle' : points_checkLeft rc st rl = le := hle
  have hboth : points_checkBoth t x = some (tumblaw2_errs [te, se]) := by
    unfold points_checkBoth
    rw [t1, s1, errs_cons, errs_cons, errs_nil]
    simp only [Option.bind_some]
    by_cases h : te = 0
    · by_cases h2 : se = 0 <;> simp [h, h2]
    · simp [h]
  have rng : le = 0 → (0 ≤ rc ∧ rc ≤ 100) ∧ (0 ≤ rl ∧ rl ≤ 100) := fun h => by
    rw [h] at hle
    unfold tumbref2_LeftFault tumbref2_in at hle
    split at hle
    · cases hle
    · rename_i hh; simp at hh; omega
  -- what is left
  have hleft : ∃ n, points_Left t rc st rl = some (n, tumblaw2_errs [te, le]) ∧ n = (if decide (tumblaw2_errs [te, le] = 0) = true then tumbref2_LeftOf t rc st rl else 0) := by
    unfold points_Left
    rw [t1, hle', Option.bind_some, errs_cons, errs_cons, errs_nil]
    by_cases h : te = 0
    · by_cases h2 : le = 0
      · exact ⟨points_left t rc st rl, by simp [h, h2], by simp [h, h2, left_eq t (table_most (by rw [t1, h]))]⟩
      · exact ⟨0, by simp [h, h2], by simp [h, h2]⟩
    · exact ⟨0, by simp [h], by simp [h]⟩
  have hwin : ∃ z, points_CanWin t x rc st rl = some (z, tumblaw2_errs [te, se, le]) ∧ (tumblaw2_errs [te, se, le] = 0 → tumbref2_WinnersOf t x rc st rl = some z) ∧ (tumblaw2_errs [te, se, le] ≠ 0 → z = []) := by
    unfold points_CanWin
    rw [hboth, hle', Option.bind_some]
    simp only [errs_cons, errs_nil]
    by_cases h : te = 0
    · by_cases h2 : se = 0
      · by_cases h3 : le = 0
        · have hb0 : points_checkBoth t x = some 0 := by rw [hboth, errs_cons, errs_cons, errs_nil]; simp [h, h2]
          obtain ⟨R, hR⟩ := rows_right (t3 h) hx.len (by rw [s2, h2])
          obtain ⟨C, ⟨m, m1, m2⟩, c2, hCl, c3⟩ := clubs_parts hR (k_A :: clubP) (by decide) hx.club
          obtain ⟨r1, r2⟩ := rng h3
          obtain ⟨n, hn, hn2⟩ := left_rng (t3 h) (st := st) r1 r2
          obtain ⟨z, z1, z2⟩ := win_l C t rc st rl n hn (by rw [left_eq t (table_most (by rw [t1, h])), hn2]) hn2 C 0 [] c3 (by simp; omega)
          refine ⟨z, ?_, fun _ => ?_, fun h' => by simp [h, h2, h3] at h'⟩
          · simp only [h, h2, h3, ne_eq, not_true_eq_false, if_false, decide_true, Bool.not_true, Bool.false_eq_true, m1, m2, Option.bind_some, join_eq]
            exact z1
          · unfold tumbref2_WinnersOf
            rw [c2, Option.bind_some]
            simp only [join_eq]
            exact z2
        · exact ⟨[], by simp [h, h2, h3], fun h' => by simp [h, h2, h3] at h', fun _ => rfl⟩
      · exact ⟨[], by simp [h, h2], fun h' => by simp [h, h2] at h', fun _ => rfl⟩
    · exact ⟨[], by simp [h], fun h' => by simp [h] at h', fun _ => rfl⟩
  obtain ⟨n, n1, n2⟩ := hleft
  obtain ⟨z, z1, z2, z3⟩ := hwin
  unfold tumblaw2_ClubsCanWin
  rw [e1]; simp only [Option.bind_some]
  rw [e2]; simp only [Option.bind_some]
  rw [e3]; simp only [Option.bind_some]
  rw [e4]; simp only [Option.bind_some]
  rw [e5]; simp only [Option.bind_some]
  rw [n1, z1, t2, s2]
  simp only [Option.bind_some, join_eq, hle, pointed_ok, decide_true, Bool.true_and]
  by_cases h1 : tumblaw2_errs [te, le] = 0
  · rw [if_pos (decide_eq_true h1)] at n2
    rw [if_pos (decide_eq_true h1)]
    by_cases h2 : tumblaw2_errs [te, se, le] = 0
    · rw [if_pos (decide_eq_true h2), z2 h2]; simp [n2, equal_str]
    · rw [if_neg (by simpa using h2), z3 h2]; simp [n2, equal_str]
  · rw [if_neg (by simpa using h1)] at n2
    rw [if_neg (by simpa using h1)]
    by_cases h2 : tumblaw2_errs [te, se, le] = 0
    · rw [if_pos (decide_eq_true h2), z2 h2]; simp [n2, equal_str]
    · rw [if_neg (by simpa using h2), z3 h2]; simp [n2, equal_str]
end Go.Proofs.YtkkaficomcpalaaGreatDoor
