/- The plain law of ScoredTexts. No program stands here but its twins. -/
import Derived.Test.YtcnneeipmadakaaGreatDoorPText
import Derived.Test.YtcnneeipmadakaaGreatDoorPList
import Derived.Test.YtcnneeipmadakaaGreatDoorPScoredW
import Derived.Test.YtcnneeipmadakaaGreatDoorPRanksR
namespace Go.Proofs.YtcnneeipmadakaaGreatDoor
open Go
theorem pointedT_ok : tumblaw2_pointed = some true := by decide +kernel
theorem lineP_both (line : ByteArray) (x : List GScored) (hl : line.size ≤ 200000) (hx : x.length ≤ 200000) : ∃ b x' y', points_Read_c1 line x = some (b, x') ∧ tumbref2_ScoredRead_c1 line x = some (b, y') ∧ (b = true → x' = y' ∧ x'.length ≤ x.length + 1) := by
  have hr : room x.length = true := by unfold room; exact decide_eq_true (by omega)
  unfold points_Read_c1 tumbref2_ScoredRead_c1 tumbref2_Words
  rw [wSplit_is line (by omega), split_is line (by omega)]
  have hsz := wordsT_size line
  generalize wordsT line = w at *
  simp only [Option.bind_some, emptyIn, join_eq]
  cases hE : anyE w with
  | true =>
    simp only [if_true, Option.bind_some, Bool.not_false, Bool.not_true, Bool.true_or]
    exact ⟨false, _, x, rfl, rfl, fun h => by cases h⟩
  | false =>
    simp only [Bool.false_eq_true, if_false, Option.bind_some, Bool.not_true, Bool.not_false, Bool.false_or]
    by_cases h5 : (w.length : Int) = 5
    · have i0 : inB 0 w.length = true := inB_iff.2 (by omega)
      have i1 : inB 1 w.length = true := inB_iff.2 (by omega)
      have i2 : inB 2 w.length = true := inB_iff.2 (by omega)
      have i3 : inB 3 w.length = true := inB_iff.2 (by omega)
      have i4 : inB 4 w.length = true := inB_iff.2 (by omega)
      have hmem : ∀ (k : Nat), k < w.length → nth w (k : Int) ∈ w := fun k hk => by
        have : nth w (k : Int) = w[k] := by simp [nth, List.getD, List.getElem?_eq_getElem hk]
        rw [this]; exact List.getElem_mem hk
      obtain ⟨n, n', ok, e1, e2, e3⟩ := number_both (nth w 3) (by have := hsz _ (hmem 3 (by omega)); rw [show ((3 : Nat) : Int) = 3 from rfl] at this; omega) 15 (by omega)
      simp only [h5, decide_true, Bool.not_true, Bool.false_eq_true, if_false, Bool.false_or, chk_pos i0, chk_pos i1, chk_pos i2, chk_pos i3, chk_pos i4, chk_pos hr, e1, e2, Option.bind_some]
      have fin : ∃ b x' y', (some (ok, x ++ [GScored.mk (nth w 0) (nth w 1) (words_Undash (nth w 2)) n (decide (nth w 4 = k_r))]) : Option (Bool × List GScored)) = some (b, x') ∧ (some (ok, x ++ [GScored.mk (nth w 0) (nth w 1) (tumbref2_undash (nth w 2)) n' (decide (nth w 4 = k_r))]) : Option (Bool × List GScored)) = some (b, y') ∧ (b = true → x' = y' ∧ x'.length ≤ x.length + 1) := by
        refine ⟨ok, _, _, rfl, rfl, fun h => ?_⟩
        obtain ⟨rfl, _⟩ := e3 h
        exact ⟨rfl, by simp⟩
      by_cases hk : nth w 4 = k_r
      · simp only [hk, decide_true, Bool.not_true, Bool.false_and, Bool.false_eq_true, if_false] at fin ⊢
        exact fin
      · by_cases hk2 : nth w 4 = k_s
        · simp only [hk, decide_false, Bool.not_false, if_true, Bool.true_and, hk2, decide_true, Bool.not_true, Bool.false_eq_true, if_false] at fin ⊢
          have hne : ¬ k_s = k_r := by decide
          simp only [hne, decide_false, Bool.not_false, if_true, Bool.true_and, hk2, decide_true, Bool.not_true, Bool.false_eq_true, if_false] at fin ⊢
          exact fin
        · simp only [hk, hk2, decide_false, Bool.not_false, if_true, Bool.true_and]
          exact ⟨false, x, x, rfl, rfl, fun h => by cases h⟩
    · simp only [h5, decide_false, Bool.not_false, if_true, Bool.true_or, Bool.or_true]
      exact ⟨false, x, x, rfl, rfl, fun h => by cases h⟩
theorem readP_both (t : ByteArray) (ht : t.size ≤ 1000) : ∃ b i f, points_Read t = some (b, i, f) ∧ tumbref2_ScoredRead t = some (b, i, f) := by
  unfold points_Read tumbref2_ScoredRead
  rw [if_neg (by simp; omega), if_neg (by simp; omega)]
  unfold words_Lines_points_Read_c1 tumbref2_Lines_tumbref2_ScoredRead_c1
  simp only [join_eq]
  obtain ⟨n, ok, x', y', e1, e2, e3⟩ := lines_both points_Read_c1 tumbref2_ScoredRead_c1 200000 (by omega) (fun line x h1 h2 => lineP_both line x h1 h2) (fun x1 => some (0, true, x1)) (fun x1 => some (0, true, x1))
    (words_Lines_points_Read_c1_l1 fun x1 => some (0, true, x1)) (tumbref2_Lines_tumbref2_ScoredRead_c1_l1 fun x1 => some (0, true, x1)) (fun _ _ _ _ => rfl) (fun _ _ _ _ => rfl) 1000 4611686018427387904 [] t 0 (by omega) (by omega) (by simp)
  rw [e1, e2]
  cases ok with
  | false =>
    simp only [Bool.false_eq_true, if_false, Option.bind_some, Bool.not_false, if_true]
    exact ⟨_, _, _, rfl, rfl⟩
  | true =>
    obtain ⟨rfl, hlen⟩ := e3 rfl
    simp only [if_true, Option.bind_some, Bool.not_true, Bool.false_eq_true, if_false]
    obtain ⟨e, c1, c2, _⟩ := scored_eq x' (by simpa using hlen)
    rw [c1, c2]
    simp only [Option.bind_some]
    by_cases he : e = 0
    · simp only [he, decide_true, Bool.not_true, Bool.false_eq_true, if_false]
      exact ⟨_, _, _, rfl, rfl⟩
    · simp only [he, decide_false, Bool.not_false, if_true]
      exact ⟨_, _, _, rfl, rfl⟩
theorem spP_list : k__20.data.toList = [32] := rfl
theorem join5_is (a b c d e : ByteArray) (hs : a.size + b.size + c.size + d.size + e.size ≤ 100000) :
    strings_Join [a, b, c, d, e] k__20 = some (a ++ k__20 ++ b ++ k__20 ++ c ++ k__20 ++ d ++ k__20 ++ e) := by
  have e1 := size_list a
  have e2 := size_list b
  have e3 := size_list c
  have e4 := size_list d
  have e5 := size_list e
  have hj : Lib.join ([a, b, c, d, e].map (·.data.toList)) k__20.data.toList = a.data.toList ++ 32 :: (b.data.toList ++ 32 :: (c.data.toList ++ 32 :: (d.data.toList ++ 32 :: e.data.toList))) := by
    rw [spP_list]; simp [Lib.join, List.intercalate, List.intersperse]
  unfold strings_Join
  rw [hj, chk_pos (by simp; omega)]
  congr 1
  apply bytes_ext
  simp [ByteArray.data_append, k__20]
def PT (M : Nat) (y : GScored) : Prop := y.Race.size + y.Who.size + y.Club.size + 40 ≤ M ∧ 0 ≤ y.Rank ∧ y.Rank ≤ 300
theorem dashP (s : ByteArray) : tumbref2_dash s = words_Dash s ∧ (words_Dash s).size ≤ s.size + 1 := by
  refine ⟨rfl, ?_⟩
  unfold words_Dash
  split
  · have : k__2d.size = 1 := rfl
    omega
  · omega
theorem textP_loops (M : Nat) (hM : M ≤ 3000) : ∀ (ys : List GScored) (i i' : Nat) (b : ByteArray) (d : Bool), (∀ y ∈ ys, PT M y) → b.size + M * ys.length ≤ 100000 →
    ∃ u d', (∀ j1 : ByteArray → Bool → Option (ByteArray × Int), points_Text_l1 j1 ys i b d = j1 u d') ∧ (∀ j1 : ByteArray → Option ByteArray, tumbref2_ScoredLines_l1 j1 ys i' b = j1 u) ∧ u.size ≤ b.size + M * ys.length
  | [], i, i', b, d, _, _ => ⟨b, d, fun _ => rfl, fun _ => rfl, by simp⟩
  | y :: ys, i, i', b, d, hs, hb => by
    rw [List.length_cons, Nat.mul_succ] at hb
    obtain ⟨g1, g2, g3⟩ := hs y List.mem_cons_self
    obtain ⟨s1, a1, z1, _⟩ := itoa_is y.Rank (by omega) (by omega)
    have k1 : k__20.size = 1 := rfl
    have k2 : k__0a.size = 1 := rfl
    have k3 : k_r.size = 1 := rfl
    have k4 : k_s.size = 1 := rfl
    obtain ⟨d1, d2⟩ := dashP y.Club
    have hs' : ∀ z ∈ ys, PT M z := fun z hz => hs z (List.mem_cons_of_mem _ hz)
    generalize hdc : words_Dash y.Club = dc at *
    have step : ∀ r : ByteArray, r.size = 1 → ∃ u d', (∀ j1 : ByteArray → Bool → Option (ByteArray × Int), Option.bind (strings_Join [y.Race, y.Who, dc, s1, r] k__20) (fun r3 =>
          Chk (decide (r3.size + k__0a.size < 1073741824)) (Chk (decide (b.size + (r3 ++ k__0a).size ≤ 140737488355328)) (points_Text_l1 j1 ys (i + 1) (b ++ (r3 ++ k__0a)) true))) = j1 u d') ∧
        (∀ j1 : ByteArray → Option ByteArray, Option.bind (strings_Join [y.Race, y.Who, dc, s1, r] k__20) (fun r2 =>
          Chk (decide (r2.size + k__0a.size < 1073741824)) (Chk (decide (b.size + (r2 ++ k__0a).size < 1073741824)) (tumbref2_ScoredLines_l1 j1 ys (i' + 1) (b ++ (r2 ++ k__0a))))) = j1 u) ∧ u.size ≤ b.size + M * (ys.length + 1) := by
      intro r hr
      have hj := join5_is y.Race y.Who dc s1 r (by omega)
      generalize hln : y.Race ++ k__20 ++ y.Who ++ k__20 ++ dc ++ k__20 ++ s1 ++ k__20 ++ r = ln at hj
      have hsz : ln.size ≤ y.Race.size + y.Who.size + y.Club.size + 30 := by
        rw [← hln]; simp only [ByteArray.size_append, k1]; omega
      have hbs : (b ++ (ln ++ k__0a)).size ≤ b.size + M := by simp only [ByteArray.size_append, k2]; omega
      obtain ⟨u, d', q1, q2, q3⟩ := textP_loops M hM ys (i + 1) (i' + 1) (b ++ (ln ++ k__0a)) true hs' (by omega)
      rw [hj]
      refine ⟨u, d', fun j1 => ?_, fun j1 => ?_, by rw [Nat.mul_succ]; omega⟩
      · simp only [Option.bind_some]
        rw [chk_pos (decide_eq_true (by omega)), chk_pos (decide_eq_true (by simp only [ByteArray.size_append, k2]; omega))]
        exact q1 j1
      · simp only [Option.bind_some]
        rw [chk_pos (decide_eq_true (by omega)), chk_pos (decide_eq_true (by simp only [ByteArray.size_append, k2]; omega))]
        exact q2 j1
    cases hrel : y.Relay with
    | true =>
      obtain ⟨u, d', q1, q2, q3⟩ := step k_r k3
      refine ⟨u, d', fun j1 => ?_, fun j1 => ?_, q3⟩
      · rw [points_Text_l1]
        simp only [join_eq, hrel, if_true, a1, Option.bind_some, hdc]
        exact q1 j1
      · rw [tumbref2_ScoredLines_l1]
        simp only [join_eq, hrel, if_true, a1, Option.bind_some, d1]
        exact q2 j1
    | false =>
      obtain ⟨u, d', q1, q2, q3⟩ := step k_s k4
      refine ⟨u, d', fun j1 => ?_, fun j1 => ?_, q3⟩
      · rw [points_Text_l1]
        simp only [join_eq, hrel, Bool.false_eq_true, if_false, a1, Option.bind_some, hdc]
        exact q1 j1
      · rw [tumbref2_ScoredLines_l1]
        simp only [join_eq, hrel, Bool.false_eq_true, if_false, a1, Option.bind_some, d1]
        exact q2 j1
theorem linesP_is (M : Nat) (hM : M ≤ 3000) (x : List GScored) (hs : ∀ y ∈ x, PT M y) (hl : M * x.length ≤ 100000) : ∃ u, tumbref2_ScoredLines x = some u ∧ u.size ≤ M * x.length ∧ (points_CheckScored x = some 0 → points_Text x = some (u, 0)) := by
  obtain ⟨u, d, h1, h2, h3⟩ := textP_loops M hM x 0 0 k_empty false hs (by show 0 + M * x.length ≤ 100000; omega)
  have h3' : u.size ≤ M * x.length := by have : k_empty.size = 0 := rfl; omega
  refine ⟨u, ?_, h3', fun hc => ?_⟩
  · unfold tumbref2_ScoredLines
    rw [join_eq]
    exact h2 _
  · unfold points_Text
    rw [hc]
    simp only [Option.bind_some, decide_true, Bool.not_true, Bool.false_eq_true, if_false, join_eq]
    have he : ByteArray.empty = k_empty := rfl
    rw [he, h1, if_neg (by simp; omega)]
section
variable {L : List Int} (hL : LongL L)
include hL
theorem textSc_loop (r3 : Int × Int) (hr : r3.1 ≤ 2) (j1 : Int → ByteArray → Option (ByteArray × Int)) : ∀ (m : Nat) (a : Int) (t : ByteArray) (i : Int), 0 ≤ i → i ≤ r3.1 → r3.1 - i < (m : Int) → 0 ≤ a → a + 3 * m ≤ 1000000 → t.size + 20 * m ≤ 900 →
    ∃ b u, Stream_ScoredText_l1 r3 L j1 m a t i = j1 b u ∧ u.size ≤ 900
  | 0, a, t, i, h0, h0', h1, h2, h3, h4 => by omega
  | m + 1, a, t, i, h0, h0', h1, h2, h3, h4 => by
    rw [Stream_ScoredText_l1]
    by_cases hc : i < r3.1
    · rw [if_pos (decide_eq_true hc)]
      obtain ⟨u, b, e, g1, g2, g3⟩ := changed_dr hL (a := a) h2 (by omega) t k__20_0a0_2d9rsa1 (by omega) (by decide)
      have hk : k__20_0a0_2d9rsa1.size = 9 := rfl
      rw [e, W_in (by omega) (by omega)]
      simp only [Option.bind_some]
      exact textSc_loop r3 hr j1 m b u (i + 1) (by omega) (by omega) (by omega) (by omega) (by omega) (by omega)
    · rw [if_neg (by simpa using hc)]
      exact ⟨a, t, rfl, by omega⟩
omit hL in
theorem five_small {s : ByteArray} (h : s ∈ raceP ∨ s ∈ fiveP ∨ s ∈ clubP) : s.size ≤ 5 := by
  have g : ∀ s ∈ raceP ++ fiveP ++ clubP, s.size ≤ 5 := by decide +kernel
  refine g s ?_
  simp only [List.mem_append]
  rcases h with h | h | h
  · exact .inl (.inl h)
  · exact .inl (.inr h)
  · exact .inr h
theorem scoredText_ok {a : Int} (ha : 0 ≤ a) (ha' : a ≤ 5000) : ∃ t b, Stream_ScoredText L a = some (t, b) ∧ t.size ≤ 1000 := by
  obtain ⟨x, b, e, g1, g2, Gs, g3, g4⟩ := scored_dr hL (a := a) ha (by omega)
  have hx : ∀ y ∈ x, PT 55 y := fun y hy => by
    rw [g3] at hy
    obtain ⟨r1, r2, r3, r4, r5⟩ := g4.row y hy
    have := five_small (.inl r1)
    have := five_small (.inr (.inl r2))
    have := five_small (.inr (.inr r3))
    exact ⟨by omega, r4, by omega⟩
  have hmin : imin (x.length : Int) 4 = if 4 < (x.length : Int) then 4 else (x.length : Int) := rfl
  unfold Stream_ScoredText
  rw [e]; simp only [Option.bind_some]
  have hm0 : 0 ≤ imin (x.length : Int) 4 := by rw [hmin]; split <;> omega
  have hm1 : imin (x.length : Int) 4 ≤ x.length := by rw [hmin]; split <;> omega
  have hm2 : imin (x.length : Int) 4 ≤ 4 := by rw [hmin]; split <;> omega
  generalize imin (x.length : Int) 4 = q at *
  have hcl : (cut x 0 q).length ≤ 4 := by unfold cut; simp; omega
  obtain ⟨u, e1, z1, _⟩ := linesP_is 55 (by omega) (cut x 0 q) (fun y hy => hx y (by
    unfold cut at hy
    exact List.take_subset _ _ (List.drop_subset _ _ hy))) (by omega)
  obtain ⟨v, b2, e2, p2, q2, m2⟩ := pick_dr hL (a := b) (by omega) (by omega) [0, 0, 1, 2] (by simp) (by simp)
  simp only [List.mem_cons, List.not_mem_nil, or_false] at m2
  rw [chk_pos (cutB_iff.2 (by omega)), e1]; simp only [Option.bind_some]
  rw [e2]; simp only [Option.bind_some, join_eq]
  obtain ⟨b3, u', e3, z3⟩ := textSc_loop hL (v, b2) (by show v ≤ 2; omega) (fun x1 x2 => some (x2, x1)) ((v - 0).toNat + 2) b2 u 0 (by omega) (by show 0 ≤ v; omega) (by show v - 0 < _; omega) (by omega) (by omega) (by omega)
  exact ⟨u', b3, e3, by omega⟩
end
theorem eqScT_is (l : List GScored) : slices_Equal_Scored l l = some true := by
  unfold slices_Equal_Scored
  rw [if_neg (by simp), join_eq]
  exact eq_l l (slices_Equal_Scored_l1 l (some true)) (fun _ => rfl) (fun _ _ _ => rfl) l [] rfl
theorem plain_ScoredTexts (l : List Int) (hl : l.length ≤ 9223372036854775807) : tumblaw2_ScoredTexts l = some true := by
  have hL : LongL l := by unfold LongL; omega
  obtain ⟨x, a1, e1, p1, q1, hx⟩ := anyScored_dr hL (a := 0) (by omega) (by omega)
  obtain ⟨t, a2, e2, ht⟩ := scoredText_ok hL (a := a1) (by omega) (by omega)
  obtain ⟨b, i, f, r1, r2⟩ := readP_both t ht
  have hlen := hx.len
  obtain ⟨e, c1, c2, c3⟩ := scored_eq x (by omega)
  unfold tumblaw2_ScoredTexts
  rw [e1]; simp only [Option.bind_some]
  rw [e2]; simp only [Option.bind_some]
  rw [c2, r1, r2]; simp only [Option.bind_some, join_eq]
  by_cases he : e = 0
  · subst he
    obtain ⟨Gs, d1, d2, _⟩ := c3 rfl
    have hT : ∀ y ∈ x, PT 2100 y := fun y hy => by
      have hs := hx.size y hy
      have hc : y.Club.size ≤ 5 := by
        have g : ∀ s ∈ k_A :: clubP, s.size ≤ 5 := by decide +kernel
        exact g _ (hx.club y hy)
      rw [d1] at hy
      obtain ⟨g, hg, hy'⟩ := List.mem_flatten.1 hy
      have := (d2 g hg).2.rr y hy'
      exact ⟨by omega, this.1, this.2⟩
    obtain ⟨u, u1, _, u3⟩ := linesP_is 2100 (by omega) x hT (by omega)
    rw [u3 c1, u1]
    simp only [Option.bind_some, decide_true, if_true, Bool.and_self, Bool.true_and, eqScT_is, pointedT_ok]
  · have ht : points_Text x = some (k_empty, e) := by
      unfold points_Text
      rw [c1]
      simp only [Option.bind_some]
      rw [if_pos (by simpa using he)]
    rw [ht]
    simp only [Option.bind_some]
    rw [if_neg (by simpa using he)]
    simp only [Option.bind_some, decide_true, if_true, Bool.and_self, Bool.true_and, eqScT_is, pointedT_ok]
end Go.Proofs.YtcnneeipmadakaaGreatDoor
