/- The plain law of RelaysLeadOff. No program stands here but its twins. -/
import Derived.Test.YtlfacnkbjmilpaaDoorPStr
import Derived.Test.YtlfacnkbjmilpaaDoorPRace
namespace Go.Proofs.YtlfacnkbjmilpaaDoor
open Go
theorem recorded_ok : tumblaw2_recorded = some true := by decide +kernel
theorem meetRace_dr2 {L : List Int} (hL : LongL L) {a : Int} (h0 : 0 ≤ a) (h1 : a ≤ 100000000) (key : ByteArray) : Dr a 7 (fun r => (r.Metres = 50 ∨ r.Metres = 100 ∨ r.Metres = 200) ∧ (r.Course = 25 ∨ r.Course = 50) ∧ (r.Legs = 1 ∨ r.Legs = 4)) (Stream_MeetRace L a key) := by
  unfold Stream_MeetRace
  obtain ⟨v1, b1, e1, g1, g2, q1⟩ := pick_dr hL h0 (by omega) [50, 100, 200] (by simp) (by simp)
  rw [e1]; simp only [Option.bind_some]
  obtain ⟨v2, b2, e2, g3, g4, _⟩ := pick_dr hL (a := b1) (by omega) (by omega) [1, 2, 3, 4] (by simp) (by simp)
  rw [e2]; simp only [Option.bind_some]
  obtain ⟨v3, b3, e3, g5, g6, q3⟩ := pick_dr hL (a := b2) (by omega) (by omega) [25, 50] (by simp) (by simp)
  rw [e3]; simp only [Option.bind_some]
  obtain ⟨v4, b4, e4, g7, g8, q4⟩ := pick_dr hL (a := b3) (by omega) (by omega) [1, 1, 1, 4] (by simp) (by simp)
  rw [e4]; simp only [Option.bind_some]
  obtain ⟨v5, b5, e5, g9, g10, _⟩ := pick_dr hL (a := b4) (by omega) (by omega) [0, 1, 2] (by simp) (by simp)
  rw [e5]; simp only [Option.bind_some]
  obtain ⟨v6, b6, e6, g11, g12, _⟩ := pick_dr hL (a := b5) (by omega) (by omega) [0, 0, 5, 10] (by simp) (by simp)
  rw [e6]; simp only [Option.bind_some]
  obtain ⟨v7, b7, e7, g13, g14, _⟩ := pick_dr hL (a := b6) (by omega) (by omega) [0, 5, 90] (by simp) (by simp)
  rw [e7]; simp only [Option.bind_some]
  exact ⟨_, _, rfl, by omega, by omega, by simpa using q1, by simpa using q3, by simpa using q4⟩
theorem splits_l (j : Option Int) : ∀ (ys : List Int) (i : Nat) (x : Int), 0 ≤ x → timing_CheckSplits_l1 j ys i x = tumbref1_SplitsFault_l1 j ys i x
  | [], _, _, _ => rfl
  | y :: ys, i, x, hx => by
    rw [timing_CheckSplits_l1, tumbref1_SplitsFault_l1]
    simp only [join_eq]
    have hw : words_Within = tumbref1_in := rfl
    rw [hw]
    by_cases h1 : (!(tumbref1_in y 0 360000)) = true
    · rw [if_pos h1, if_pos h1]
    · rw [if_neg h1, if_neg h1]
      have hy : 0 ≤ y := by
        unfold tumbref1_in at h1
        simp at h1; omega
      by_cases h2 : y = 0
      · subst h2
        have : imax x 0 = x := by unfold imax; rw [if_neg (by omega)]
        simp [this, splits_l j ys (i + 1) x hx]
      · by_cases h3 : y ≤ x
        · simp [h2, h3]
        · have : imax x y = y := by unfold imax; rw [if_pos (by omega)]
          simp [h2, h3, this, splits_l j ys (i + 1) y hy]
/-- A right race. -/
theorem race_good {r : GRace} (h : timing_CheckRace r = some 0) : (r.Course = 25 ∨ r.Course = 50) ∧ (1 ≤ r.Legs ∧ r.Legs ≤ 4) ∧ (25 ≤ r.Metres ∧ r.Metres ≤ 1500) ∧ Int.tmod r.Metres r.Course = 0 := by
  unfold timing_CheckRace at h
  obtain ⟨b, k1, _⟩ := key1_eq r.Key
  rw [k1] at h
  simp only [Option.bind_some, join_eq] at h
  split at h
  · simp at h
  · split at h
    · simp at h
    · split at h
      · simp at h
      · rename_i h1 h2 h3
        simp only [Bool.or_eq_true, not_or, Bool.and_eq_true, Bool.not_eq_true', decide_eq_true_eq, decide_eq_false_iff_not, words_Within, Bool.not_eq_true, Bool.and_eq_false_iff, not_and] at h3
        obtain ⟨⟨⟨⟨⟨h4, h5⟩, h6⟩, _⟩, _⟩, _⟩ := h3
        have hc : r.Course = 25 ∨ r.Course = 50 := by omega
        have c0 : (!decide (r.Course = 0)) = true := by rcases hc with g | g <;> simp [g]
        rw [chk_pos c0] at h
        refine ⟨hc, by omega, by omega, ?_⟩
        split at h
        · simp at h
        · rename_i h7; simpa using h7
theorem join_if {α R : Type} {K : α → Option R} {c : Bool} {a b : α} {v : Option R} (h : ∀ x, (x = a ∨ x = b) → K x = v) : Join K (fun j => if c = true then j a else j b) = v := by
  cases c
  · exact h b (.inr rfl)
  · exact h a (.inl rfl)
theorem leadOff_ok (r : GRace) (x8 : List Int) : (Option.bind (record_LeadOff r x8) (fun r8 =>
  Option.bind (tumbref1_RaceFault r) (fun r9 =>
  Join (fun (x9 : Int) =>
  Join (fun (x10 : Int) (x11 : Bool) =>
  Join (fun (c1 : Bool) =>
  some c1) (fun j8 =>
  if (((decide (r8.2.2 = x9)) && (decide (r8.1 = x10))) && (decide (r8.2.1 = x11))) then Option.bind (tumblaw2_recorded) (fun r12 =>
  j8 ((((decide (r8.2.2 = x9)) && (decide (r8.1 = x10))) && (decide (r8.2.1 = x11))) && r12)) else j8 ((((decide (r8.2.2 = x9)) && (decide (r8.1 = x10))) && (decide (r8.2.1 = x11))) && true))) (fun j7 =>
  if ((decide (x9 = 0)) && (decide (1 < r.Legs))) then
  Option.bind (tumbref1_LengthsOf r) (fun r11 =>
  Chk (!decide (r.Legs = 0)) (
  Chk (inB (W ((W (Int.tdiv r11 r.Legs)) - 1)) x8.length) (
  j7 (nth x8 (W ((W (Int.tdiv r11 r.Legs)) - 1))) (decide (0 < (nth x8 (W ((W (Int.tdiv r11 r.Legs)) - 1))))))))
  else
  j7 0 false)) (fun j6 =>
  if decide (r9 = 0) then
  Option.bind (tumbref1_SplitsFault r x8) (fun r10 =>
  j6 r10)
  else
  j6 r9)))) = some true := by
  obtain ⟨e, e1, e2⟩ := race_eq r
  unfold record_LeadOff timing_CheckSplits
  rw [e1, e2]
  simp only [Option.bind_some, join_eq, recorded_ok]
  by_cases he : e = 0
  · subst he
    obtain ⟨hc, hl, hm, ht⟩ := race_good e1
    have c0 : (!decide (r.Course = 0)) = true := by rcases hc with h | h <;> simp [h]
    have hq : r.Metres = r.Course * (Int.tdiv r.Metres r.Course) := by
      have := Int.mul_tdiv_add_tmod r.Metres r.Course; omega
    have hq1 : 1 ≤ Int.tdiv r.Metres r.Course ∧ Int.tdiv r.Metres r.Course ≤ 60 := by
      rcases hc with h | h <;> rw [h] at hq ⊢ <;> omega
    generalize hk : Int.tdiv r.Metres r.Course = k at hq1
    have w1 : W k = k := W_in (by omega) (by omega)
    have hkl : k ≤ k * r.Legs ∧ k * r.Legs ≤ 240 := by
      have : r.Legs = 1 ∨ r.Legs = 2 ∨ r.Legs = 3 ∨ r.Legs = 4 := by omega
      rcases this with h | h | h | h <;> rw [h] <;> omega
    have w2 : W (k * r.Legs) = k * r.Legs := W_in (by omega) (by omega)
    have hlen : timing_lengths r = some (k * r.Legs) := by unfold timing_lengths; rw [chk_pos c0, hk, w1, w2]
    have hlen2 : tumbref1_LengthsOf r = some (k * r.Legs) := by unfold tumbref1_LengthsOf; rw [chk_pos c0, hk, w1, w2]
    have hdiv : Int.tdiv (k * r.Legs) r.Legs = k := Int.mul_tdiv_cancel _ (by omega)
    have w3 : W (k - 1) = k - 1 := W_in (by omega) (by omega)
    unfold tumbref1_SplitsFault
    rw [hlen, hlen2]
    simp only [Option.bind_some, join_eq, hk, w1, hdiv, w3, chk_pos c0, decide_true, Bool.not_true, Bool.false_eq_true, if_false, if_true, Bool.true_and]
    by_cases hx : (x8.length : Int) = k * r.Legs
    · have hin : inB (k - 1) x8.length = true := inB_iff.2 ⟨by omega, by omega⟩
      have hlast : inB (W ((x8.length : Int) - 1)) x8.length = true := by rw [W_in (by omega) (by omega)]; exact inB_iff.2 ⟨by omega, by omega⟩
      simp only [hx, decide_true, Bool.not_true, Bool.false_eq_true, if_false]
      rw [← hx, chk_pos hlast, splits_l _ _ _ _ (by omega)]
      obtain ⟨f, hf⟩ : ∃ f, tumbref1_SplitsFault_l1 (if decide (nth x8 (W ((x8.length : Int) - 1)) = 0) = true then some 8 else some 0) x8 0 0 = some f := by
        have key : ∀ (ys : List Int) (i : Nat) (x : Int) (o : Int), ∃ f, tumbref1_SplitsFault_l1 (some o) ys i x = some f := by
          intro ys
          induction ys with
          | nil => intro i x o; exact ⟨o, rfl⟩
          | cons y ys ih =>
            intro i x o
            rw [tumbref1_SplitsFault_l1]
            split
            · exact ⟨_, rfl⟩
            · split
              · exact ⟨_, rfl⟩
              · exact ih _ _ _
        split
        · exact key _ _ _ _
        · exact key _ _ _ _
      rw [hf]
      simp only [Option.bind_some]
      by_cases hf0 : f = 0
      · subst hf0
        by_cases hl1 : r.Legs = 1
        · simp [hl1]
        · have hlt : 1 < r.Legs := by omega
          have hn0 : ¬ r.Legs = 0 := by omega
          simp [hl1, hlt, hn0, hin, Chk]
      · simp [hf0]
    · simp [hx]
  · simp [he]
theorem rounds_l {L : List Int} (hL : LongL L) (r1 : GRace × Int) (x1 x2 n : Int) (j : (List Int) → Int → Option Bool) (hn : imax 1 (W (Int.tdiv (W ((W (Int.tdiv r1.1.Metres 25)) * x1)) (W (Int.tdiv (imax x2 25) 25)))) = n) (hn2 : n ≤ 1000) :
    ∀ (m : Nat) (x3 : List Int) (a x5 x6 : Int), 0 ≤ x6 → x6 ≤ 1000 → n - x6 < (m : Int) → 0 ≤ a → a + 2 * m ≤ 100000 → x3.length + m ≤ 10000 →
    ∃ x b, tumblaw2_RelaysLeadOff_l1 r1 x1 x2 L j (m + 1) x3 a x5 x6 = j x b ∧ a ≤ b ∧ b ≤ a + 2 * m ∧ x.length ≤ x3.length + m
  | m, x3, a, x5, x6, h1, h2, h3, h4, h5, h6 => by
    rw [tumblaw2_RelaysLeadOff_l1, hn]
    by_cases hc : x6 < n
    · rw [if_pos (decide_eq_true hc)]
      cases m with
      | zero => omega
      | succ m =>
        obtain ⟨v1, b1, e1, g1, g2, _⟩ := pick_dr hL h4 (by omega) [1500, 1600, 2000] (by simp) (by simp)
        rw [e1]; simp only [Option.bind_some]
        obtain ⟨f, b2, e2, g3, g4, _⟩ := flip_dr hL (a := b1) (by omega) (by omega) 12 (by omega)
        rw [e2]; simp only [Option.bind_some, join_eq]
        rw [W_in (n := x6 + 1) (by omega) (by omega)]
        have step : ∀ z : Int, ∃ x b, (Chk (room x3.length) (tumblaw2_RelaysLeadOff_l1 r1 x1 x2 L j (m + 1) (x3 ++ [z]) b2 (W (x5 + v1)) (x6 + 1))) = j x b ∧ a ≤ b ∧ b ≤ a + 2 * ((m + 1 : Nat) : Int) ∧ x.length ≤ x3.length + (m + 1) := by
          intro z
          rw [chk_pos (by unfold room; simp; omega)]
          obtain ⟨x, b, e, q1, q2, q3⟩ := rounds_l hL r1 x1 x2 n j hn hn2 m (x3 ++ [z]) b2 (W (x5 + v1)) (x6 + 1) (by omega) (by omega) (by omega) (by omega) (by omega) (by simp; omega)
          exact ⟨x, b, e, by omega, by push_cast; omega, by simp at q3; omega⟩
        cases f with
        | true => rw [if_pos rfl]; exact step 0
        | false => rw [if_neg (by simp)]; exact step _
    · rw [if_neg (by simpa using hc)]
      exact ⟨x3, a, rfl, by omega, by omega, by omega⟩
theorem plain_RelaysLeadOff (l : List Int) (hl : l.length ≤ 9223372036854775807) : tumblaw2_RelaysLeadOff l = some true := by
  have hL : LongL l := by unfold LongL; omega
  obtain ⟨r, a1, e1, p1, q1, hm, hc, hg⟩ := meetRace_dr2 hL (a := 0) (by omega) (by omega) k_ra
  obtain ⟨f, a2, e2, p2, q2, _⟩ := flip_dr hL (a := a1) (by omega) (by omega) 2 (by omega)
  unfold tumblaw2_RelaysLeadOff
  rw [e1]; simp only [Option.bind_some]
  rw [e2]; simp only [Option.bind_some]
  have legs : ∀ x1 : Int, x1 = 1 ∨ x1 = 4 → ∀ x2 : Int, x2 = 25 ∨ x2 = 33 ∨ x2 = 50 → ∃ n, imax 1 (W (Int.tdiv (W ((W (Int.tdiv r.Metres 25)) * x1)) (W (Int.tdiv (imax x2 25) 25)))) = n ∧ 1 ≤ n ∧ n ≤ 32 ∧ (!decide ((W (Int.tdiv (imax x2 25) 25)) = 0)) = true := by
    intro x1 h1 x2 h2
    rcases hm with h | h | h <;> rcases h1 with rfl | rfl <;> rcases h2 with rfl | rfl | rfl <;> rw [h] <;> exact ⟨_, rfl, by decide +kernel, by decide +kernel, by decide +kernel⟩
  obtain ⟨g, a3, e3, p3, q3, _⟩ := flip_dr hL (a := a2) (by omega) (by omega) 15 (by omega)
  refine join_if fun x1 hx1 => ?_
  rw [e3]; simp only [Option.bind_some]
  refine join_if fun x2 hx2 => ?_
  obtain ⟨n, hn, n1, n2, hk⟩ := legs x1 (by omega) x2 (by omega)
  rw [chk_pos hk, join_eq, hn]
  obtain ⟨x3, b, e, g1, g2, g3⟩ := rounds_l hL (r, a1) x1 x2 n (fun (x3 : List Int) (x4 : Int) => _) hn (by omega) ((n - 0).toNat + 1) [] a3 0 0 (by omega) (by omega) (by omega) (by omega) (by omega) (by simp; omega)
  rw [e]
  obtain ⟨f6, a6, e6, p6, q6, _⟩ := flip_dr hL (a := b) (by omega) (by omega) 12 (by omega)
  rw [e6]; simp only [Option.bind_some]
  rw [join_eq]
  cases f6 with
  | false => rw [if_neg (by simp)]; exact leadOff_ok (GRace.mk r.Key r.Metres r.Stroke x2 x1 r.Sex r.Young r.Old) x3
  | true =>
    rw [if_pos rfl]
    obtain ⟨o, a7, e7, p7, q7, _⟩ := odd_dr hL (a := a6) (by omega) (by omega) 0 5000 (by omega) (by omega) (by omega)
    rw [e7]; simp only [Option.bind_some]
    rw [chk_pos (by unfold room; simp at g3 ⊢; omega)]
    exact leadOff_ok (GRace.mk r.Key r.Metres r.Stroke x2 x1 r.Sex r.Young r.Old) (x3 ++ [o])
end Go.Proofs.YtlfacnkbjmilpaaDoor
