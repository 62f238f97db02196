/- The points of rows: those of the program are the reference's shares. Conditions: a right table; rows that are right (PScoredW), at most 1000. -/
import Derived.Test.YtmdjmbbmlohnlaaGreatDoorPScoredW
import Derived.Test.YtmdjmbbmlohnlaaGreatDoorPFracB
namespace Go.Proofs.YtmdjmbbmlohnlaaGreatDoor
open Go
structure TR (t : GTable) : Prop where
  len : t.Points.length ≤ 40
  rng : ∀ n ∈ t.Points, 0 ≤ n ∧ n ≤ 10000
  rel : 1 ≤ t.Relay ∧ t.Relay ≤ 10
def mkr (x : GScored) : Gpoints_row := Gpoints_row.mk x points_none
theorem not_counted {x : GScored} (h : RR x) : (decide (x.Rank = 0) || decide (x.Club = k_empty)) = !tumbref2_counted x := by
  unfold tumbref2_counted
  have := h.1
  by_cases a : x.Rank = 0
  · simp [a]
  · have : 0 < x.Rank := by omega
    simp [a, this]
def Pl (n : Nat) (x2 : List Int) : Prop := (∀ s ∈ x2, 0 ≤ s ∧ s < n) ∧ x2.Pairwise fun a b => a < b
theorem nth_app {α : Type} [Inhabited α] {l r : List α} {s : Int} (h0 : 0 ≤ s) (h : s < l.length) : nth (l ++ r) s = nth l s := by
  unfold nth
  rw [List.getD_eq_getElem?_getD, List.getD_eq_getElem?_getD, List.getElem?_append_left (by omega)]
theorem both_l1 (t : GTable) (r : ByteArray) : ∀ (ys : List GScored) (m : List (ByteArray × Int)) (x2 : List Int) (cs : List GScored), (∀ y ∈ ys, y.Race = r ∧ RR y) → Pl cs.length x2 → cs.length + ys.length ≤ 1000 → x2.length ≤ cs.length →
    ∃ m' x2', Pl (cs ++ ys.filter tumbref2_counted).length x2' ∧ x2'.length ≤ (cs ++ ys.filter tumbref2_counted).length ∧ (∀ j i, points_race_l1 t j ys i m x2 (cs.map mkr) = j m' x2' ((cs ++ ys.filter tumbref2_counted).map mkr)) ∧
      (∀ x j i, x.Race = r → tumbref2_shareOf_l1 x t j ys i m (x2.map (nth cs)) = j m' (x2'.map (nth (cs ++ ys.filter tumbref2_counted))))
  | [], m, x2, cs, _, h2, _, h4 => ⟨m, x2, by simpa using h2, by simpa using h4, fun j i => by simp [points_race_l1], fun x j i _ => by simp [tumbref2_shareOf_l1]⟩
  | y :: ys, m, x2, cs, h1, h2, h3, h4 => by
    obtain ⟨hr, hrr⟩ := h1 y List.mem_cons_self
    have hys := fun z hz => h1 z (List.mem_cons_of_mem y hz)
    simp only [List.length_cons] at h3
    have hnc := not_counted hrr
    cases hc : tumbref2_counted y with
    | false =>
      rw [hc] at hnc
      obtain ⟨m', x2', g1, g2, g3, g4⟩ := both_l1 t r ys m x2 cs hys h2 (by omega) h4
      rw [List.filter_cons_of_neg (by simp [hc])]
      refine ⟨m', x2', g1, g2, fun j i => ?_, fun x j i hx => ?_⟩
      · rw [points_race_l1, hnc]; simp only [join_eq, Bool.not_false, if_true]; exact g3 j (i + 1)
      · rw [tumbref2_shareOf_l1, Bool.or_assoc, hnc]; simp only [join_eq, Bool.not_false, Bool.or_true, if_true]; exact g4 x j (i + 1) hx
    | true =>
      rw [hc] at hnc
      have hf : (y :: ys).filter tumbref2_counted = y :: ys.filter tumbref2_counted := List.filter_cons_of_pos (by simp [hc])
      have eA : cs ++ y :: ys.filter tumbref2_counted = (cs ++ [y]) ++ ys.filter tumbref2_counted := by simp
      have hcs : (cs ++ [y]).map mkr = cs.map mkr ++ [Gpoints_row.mk y points_none] := by simp [mkr]
      have hsame : x2.map (nth (cs ++ [y])) = x2.map (nth cs) := List.map_congr_left fun s hs => nth_app (h2.1 s hs).1 (h2.1 s hs).2
      rw [hf, eA]
      have P0 : Pl (cs ++ [y]).length x2 := ⟨fun s hs => by have := h2.1 s hs; simp; omega, h2.2⟩
      have P1 : Pl (cs ++ [y]).length (x2 ++ [(cs.length : Int)]) := by
        refine ⟨fun s hs => ?_, ?_⟩
        · rcases List.mem_append.1 hs with hs | hs
          · have := h2.1 s hs; simp; omega
          · obtain rfl := List.mem_singleton.1 hs; simp; omega
        · rw [List.pairwise_append]
          exact ⟨h2.2, by simp, fun a ha b hb => by obtain rfl := List.mem_singleton.1 hb; exact (h2.1 a ha).2⟩
      have hnew : (x2 ++ [(cs.length : Int)]).map (nth (cs ++ [y])) = x2.map (nth cs) ++ [y] := by
        rw [List.map_append, hsame]
        simp [nth]
      have hrace : ∀ x : GScored, x.Race = r → (((!decide (y.Race = x.Race)) || (decide (y.Rank = 0))) || (decide (y.Club = k_empty))) = false := fun x hx => by
        rw [Bool.or_assoc, hnc, hr, hx]; simp
      cases hm : ((decide (t.Most = 0)) || (decide ((mgetD (mput m y.Club (W ((mgetD m y.Club 0) + 1))) y.Club 0) ≤ t.Most))) with
      | true =>
        obtain ⟨m', x2', g1, g2, g3, g4⟩ := both_l1 t r ys (mput m y.Club (W ((mgetD m y.Club 0) + 1))) (x2 ++ [(cs.length : Int)]) (cs ++ [y]) hys P1 (by simp; omega) (by simp; omega)
        refine ⟨m', x2', g1, g2, fun j i => ?_, fun x j i hx => ?_⟩
        · rw [points_race_l1, hnc]
          simp only [join_eq, Bool.not_true, Bool.false_eq_true, if_false, hm, if_true]
          rw [chk_pos (by unfold room; simp; omega), chk_pos (by unfold room; simp; omega), List.length_map, ← hcs]
          exact g3 j (i + 1)
        · rw [tumbref2_shareOf_l1, hrace x hx]
          simp only [join_eq, Bool.false_eq_true, if_false, hm, if_true]
          rw [chk_pos (by unfold room; simp; omega), ← hnew]
          exact g4 x j (i + 1) hx
      | false =>
        obtain ⟨m', x2', g1, g2, g3, g4⟩ := both_l1 t r ys (mput m y.Club (W ((mgetD m y.Club 0) + 1))) x2 (cs ++ [y]) hys P0 (by simp; omega) (by simp; omega)
        refine ⟨m', x2', g1, g2, fun j i => ?_, fun x j i hx => ?_⟩
        · rw [points_race_l1, hnc]
          simp only [join_eq, Bool.not_true, Bool.false_eq_true, if_false, hm]
          rw [chk_pos (by unfold room; simp; omega), ← hcs]
          exact g3 j (i + 1)
        · rw [tumbref2_shareOf_l1, hrace x hx]
          simp only [join_eq, Bool.false_eq_true, if_false, hm]
          rw [← hsame]
          exact g4 x j (i + 1) hx
theorem share_app (x : GScored) (t : GTable) (j : List (ByteArray × Int) → List GScored → Option GFraction) : ∀ (A B : List GScored) (i : Nat) (m : List (ByteArray × Int)) (s : List GScored),
    tumbref2_shareOf_l1 x t j (A ++ B) i m s = tumbref2_shareOf_l1 x t (fun m' s' => tumbref2_shareOf_l1 x t j B 0 m' s') A i m s
  | [], B, i, m, s => by
    have idx : ∀ (B : List GScored) (i k : Nat) (m : List (ByteArray × Int)) (s : List GScored), tumbref2_shareOf_l1 x t j B i m s = tumbref2_shareOf_l1 x t j B k m s := by
      intro B
      induction B with
      | nil => intros; rfl
      | cons b B ih =>
        intro i k m s
        rw [tumbref2_shareOf_l1, tumbref2_shareOf_l1]
        simp only [join_eq, ih (i + 1) (k + 1)]
    exact idx B i 0 m s
  | a :: A, B, i, m, s => by
    rw [List.cons_append, tumbref2_shareOf_l1, tumbref2_shareOf_l1]
    simp only [join_eq, share_app x t j A B (i + 1)]
theorem share_skip (x : GScored) (t : GTable) (j : List (ByteArray × Int) → List GScored → Option GFraction) : ∀ (A : List GScored) (i : Nat) (m : List (ByteArray × Int)) (s : List GScored), (∀ a ∈ A, a.Race ≠ x.Race) → tumbref2_shareOf_l1 x t j A i m s = j m s
  | [], _, _, _, _ => rfl
  | a :: A, i, m, s, h => by
    rw [tumbref2_shareOf_l1, join_eq, if_pos (by simp [h a List.mem_cons_self])]
    exact share_skip x t j A (i + 1) m s (fun b hb => h b (List.mem_cons_of_mem _ hb))
def sumI (t : GTable) (r : Int) : List GScored → Nat → Int
  | [], _ => 0
  | s :: sw, k => (if s.Rank = r ∧ k < t.Points.length then nth t.Points (k : Int) else 0) + sumI t r sw (k + 1)
def cntI (r : Int) (sw : List GScored) : Nat := sw.countP fun s => decide (s.Rank = r)
theorem pts_rng {t : GTable} (ht : TR t) {k : Nat} (hk : k < t.Points.length) : 0 ≤ nth t.Points (k : Int) ∧ nth t.Points (k : Int) ≤ 10000 := ht.rng _ (List.mem_of_getElem? (inB_get (inB_iff.2 (by omega))).1)
theorem sum_rng {t : GTable} (ht : TR t) (r : Int) : ∀ (sw : List GScored) (k : Nat), 0 ≤ sumI t r sw k ∧ sumI t r sw k ≤ 10000 * sw.length
  | [], _ => by simp [sumI]
  | s :: sw, k => by
    have ih := sum_rng ht r sw (k + 1)
    rw [sumI, List.length_cons]
    split
    · rename_i h; have := pts_rng ht h.2; omega
    · omega
theorem share_l2 (x : GScored) {t : GTable} (ht : TR t) (j : Int → Int → Option GFraction) : ∀ (ys : List GScored) (k : Nat) (a n : Int), 0 ≤ a → a + 10000 * ys.length ≤ 100000000 → 0 ≤ n → n + ys.length ≤ 100000000 →
    tumbref2_shareOf_l2 x t j ys k a n = j (a + sumI t x.Rank ys k) (n + cntI x.Rank ys)
  | [], k, a, n, _, _, _, _ => by simp [tumbref2_shareOf_l2, sumI, cntI]
  | y :: ys, k, a, n, h1, h2, h3, h4 => by
    simp only [List.length_cons] at h2 h4
    rw [tumbref2_shareOf_l2, sumI]
    simp only [join_eq]
    have hc : (cntI x.Rank (y :: ys) : Int) = (if y.Rank = x.Rank then 1 else 0) + cntI x.Rank ys := by
      unfold cntI
      rw [List.countP_cons]
      by_cases h : y.Rank = x.Rank
      · simp [h]; omega
      · simp [h]
    rw [hc]
    by_cases h : y.Rank = x.Rank
    · rw [if_pos (decide_eq_true h), if_pos h, W_in (n := n + 1) (by omega) (by omega)]
      by_cases hk : k < t.Points.length
      · have := pts_rng ht hk
        rw [if_pos (by simpa using hk), if_pos ⟨h, hk⟩, chk_pos (inB_iff.2 (by omega)), W_in (by omega) (by omega), share_l2 x ht j ys (k + 1) _ _ (by omega) (by omega) (by omega) (by omega)]
        congr 1 <;> omega
      · rw [if_neg (by simpa using hk), if_neg (fun e => hk e.2), share_l2 x ht j ys (k + 1) _ _ (by omega) (by omega) (by omega) (by omega)]
        congr 1 <;> omega
    · rw [if_neg (by simpa using h), if_neg h, if_neg (fun e => h e.1), share_l2 x ht j ys (k + 1) _ _ (by omega) (by omega) (by omega) (by omega)]
      congr 1 <;> omega
def valR (t : GTable) (rel : Bool) (sw : List GScored) (r : Int) : Option GFraction := words_Fraction (if rel then sumI t r sw 0 * t.Relay else sumI t r sw 0) (cntI r sw)
end Go.Proofs.YtmdjmbbmlohnlaaGreatDoor
