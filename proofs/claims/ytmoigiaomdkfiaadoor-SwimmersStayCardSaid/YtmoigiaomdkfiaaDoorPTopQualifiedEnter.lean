/- The plain law of TopQualifiedEnter. No program stands here but its twins. -/
import Derived.Test.YtmoigiaomdkfiaaDoorPStr
namespace Go.Proofs.YtmoigiaomdkfiaaDoor
open Go
/-- A mark as the stream gives it. -/
def MkS (m : GMark) : Prop := m.Who ∈ [k_ann, k_bea, k_empty] ∧ m.Race ∈ [k_ra, k_rb, k_A]
theorem marks_l {L : List Int} (hL : LongL L) (many : Int) (hm : many ≤ 100) : ∀ (m : Nat) (x1 : List GMark) (a x3 : Int), 0 ≤ x3 → x3 ≤ 1000 → many - x3 < (m : Int) → 0 ≤ a → a + 12 * m ≤ 10000000 → x1.length + m ≤ 100000 → (∀ p ∈ x1, MkS p) →
    ∃ x b, Stream_Marks_l1 many L (fun x a => some (x, a)) (m + 1) x1 a x3 = some (x, b) ∧ a ≤ b ∧ b ≤ a + 12 * m ∧ x.length ≤ x1.length + m ∧ ∀ p ∈ x, MkS p
  | m, x1, a, x3, h1, h2, h3, h4, h5, h6, h7 => by
    rw [Stream_Marks_l1]
    by_cases hc : x3 < many
    · rw [if_pos (decide_eq_true hc)]
      cases m with
      | zero => omega
      | succ m =>
        obtain ⟨v1, b1, e1, g1, g2, q1⟩ := some_dr hL h4 (by omega) [k_ann, k_ann, k_bea] (by simp) (by simp)
        rw [e1]; simp only [Option.bind_some]
        obtain ⟨v2, b2, e2, g3, g4, q2⟩ := some_dr hL (a := b1) (by omega) (by omega) [k_ra, k_ra, k_rb] (by simp) (by simp)
        rw [e2]; simp only [Option.bind_some]
        obtain ⟨v3, b3, e3, g5, g6, _⟩ := range_dr hL (a := b2) (by omega) (by omega) 0 10 (by omega) (by omega) (by omega)
        rw [e3]; simp only [Option.bind_some]
        obtain ⟨v4, b4, e4, g7, g8, _⟩ := pick_dr hL (a := b3) (by omega) (by omega) [5900, 5900, 6000, 6100] (by simp) (by simp)
        rw [e4]; simp only [Option.bind_some]
        obtain ⟨f, b5, e5, g9, g10, _⟩ := flip_dr hL (a := b4) (by omega) (by omega) 80 (by omega)
        rw [e5]; simp only [Option.bind_some, join_eq]
        have hw1 : v1 ∈ [k_ann, k_bea, k_empty] := by
          simp only [List.mem_cons, List.not_mem_nil, or_false] at q1 ⊢
          rcases q1 with h | h | h
          · exact .inl h
          · exact .inl h
          · exact .inr (.inl h)
        have hw2 : v2 ∈ [k_ra, k_rb, k_A] := by
          simp only [List.mem_cons, List.not_mem_nil, or_false] at q2 ⊢
          rcases q2 with h | h | h
          · exact .inl h
          · exact .inl h
          · exact .inr (.inl h)
        have step : ∀ (s t : ByteArray) (d z c : Int), s ∈ [k_ann, k_bea, k_empty] → t ∈ [k_ra, k_rb, k_A] → a ≤ c → c ≤ a + 12 → ∃ x b, (Chk (room x1.length) (Stream_Marks_l1 many L (fun x a => some (x, a)) (m + 1) (x1 ++ [GMark.mk s t d z]) c (W (x3 + 1)))) = some (x, b) ∧ a ≤ b ∧ b ≤ a + 12 * ((m + 1 : Nat) : Int) ∧ x.length ≤ x1.length + (m + 1) ∧ ∀ p ∈ x, MkS p := by
          intro s t d z c hs ht hc1 hc2
          rw [chk_pos (by unfold room; simp; omega), W_in (n := x3 + 1) (by omega) (by omega)]
          obtain ⟨x, b, r1, r2, r3, r4, r5⟩ := marks_l hL many hm m (x1 ++ [GMark.mk s t d z]) c (x3 + 1) (by omega) (by omega) (by omega) (by omega) (by omega) (by simp; omega) (fun p hp => by
            rcases List.mem_append.1 hp with h | h
            · exact h7 p h
            · rw [List.mem_singleton] at h; subst h; exact ⟨hs, ht⟩)
          exact ⟨x, b, r1, by omega, by push_cast; omega, by simp at r4; omega, r5⟩
        cases f with
        | false => rw [if_neg (by simp)]; exact step v1 v2 v3 v4 b5 hw1 hw2 (by omega) (by omega)
        | true =>
          rw [if_pos rfl]
          obtain ⟨u1, c1, t1, w1, w2, z1⟩ := some_dr hL (a := b5) (by omega) (by omega) [v1, k_empty] (by simp) (by simp)
          rw [t1]; simp only [Option.bind_some]
          obtain ⟨u2, c2, t2, w3, w4, z2⟩ := some_dr hL (a := c1) (by omega) (by omega) [v2, k_A] (by simp) (by simp)
          rw [t2]; simp only [Option.bind_some]
          obtain ⟨u3, c3, t3, w5, w6, _⟩ := odd_dr hL (a := c2) (by omega) (by omega) (-40000) 4000 (by omega) (by omega) (by omega)
          rw [t3]; simp only [Option.bind_some]
          obtain ⟨u4, c4, t4, w7, w8, _⟩ := odd_dr hL (a := c3) (by omega) (by omega) 1 360000 (by omega) (by omega) (by omega)
          rw [t4]; simp only [Option.bind_some]
          refine step u1 u2 u3 u4 c4 ?_ ?_ (by omega) (by omega)
          · simp only [List.mem_cons, List.not_mem_nil, or_false] at z1
            rcases z1 with rfl | rfl
            · exact hw1
            · simp
          · simp only [List.mem_cons, List.not_mem_nil, or_false] at z2
            rcases z2 with rfl | rfl
            · exact hw2
            · simp
    · rw [if_neg (by simpa using hc)]
      exact ⟨x1, a, rfl, by omega, by omega, by omega, h7⟩
theorem marks_dr {L : List Int} (hL : LongL L) {a : Int} (h0 : 0 ≤ a) (h1 : a ≤ 1000000) (many : Int) (hm0 : 0 ≤ many) (hm : many ≤ 8) : Dr a 200 (fun x => x.length ≤ 20 ∧ ∀ p ∈ x, MkS p) (Stream_Marks L a many) := by
  unfold Stream_Marks
  simp only [join_eq]
  obtain ⟨x, b, e, g1, g2, g3, g4⟩ := marks_l hL many (by omega) ((many - 0).toNat + 1) [] a 0 (by omega) (by omega) (by omega) h0 (by omega) (by simp; omega) (fun _ h => by cases h)
  exact ⟨x, b, e, g1, by omega, by simp at g3; omega, g4⟩
theorem who_key {s : ByteArray} (h : s ∈ [k_ann, k_bea, k_empty]) : words_IsKey s = some (!decide (s = k_empty)) := by
  simp only [List.mem_cons, List.not_mem_nil, or_false] at h
  rcases h with rfl | rfl | rfl <;> decide +kernel
theorem race_key {s : ByteArray} (h : s ∈ [k_ra, k_rb, k_A]) : words_IsKey s = some (!decide (s = k_A)) := by
  simp only [List.mem_cons, List.not_mem_nil, or_false] at h
  rcases h with rfl | rfl | rfl <;> decide +kernel
/-- A mark that counts. -/
def Fit (race who : ByteArray) (f t : Int) (m : GMark) : Prop := m.Race = race ∧ m.Who = who ∧ f ≤ m.Day ∧ m.Day ≤ t
theorem ord_lt (a b c d : Int) : ((cmp_Or_int [cmp_Compare_int a b, cmp_Compare_int c d] < 0) → a ≤ b) ∧ (¬ (cmp_Or_int [cmp_Compare_int a b, cmp_Compare_int c d] < 0) → b ≤ a) := by
  have hz : ∀ x y : Int, cmp_Compare_int x y = if x < y then -1 else if y < x then 1 else 0 := by
    intro x y; unfold cmp_Compare_int cmp_isNaN_int; simp
  have ho : ∀ x y : Int, cmp_Or_int [x, y] = if x ≠ 0 then x else y := by
    intro x y
    unfold cmp_Or_int
    simp only [join_eq, cmp_Or_int_l1]
    by_cases h1 : x = 0
    · by_cases h2 : y = 0 <;> simp [h1, h2]
    · simp [h1]
  rw [ho, hz, hz]
  by_cases h1 : a < b
  · simp [h1]; omega
  · by_cases h2 : b < a
    · simp [h1, h2]; omega
    · have : a = b := by omega
      subst this; simp
theorem best_l (race who : ByteArray) (f t : Int) (l : List GMark) : ∀ (ys dn : List GMark) (i : Nat) (b : GMark) (ok : Bool), l = dn ++ ys →
    ((ok = false ∧ ∀ m ∈ dn, ¬ Fit race who f t m) ∨ (ok = true ∧ b ∈ dn ∧ Fit race who f t b ∧ ∀ m ∈ dn, Fit race who f t m → b.Time ≤ m.Time)) →
    ∃ b' ok', swimmer_best_l1 race who f t (fun x1 x2 x3 x4 x5 => (GMark.mk x1 x2 x3 x4, x5)) ys i b.Who b.Race b.Day b.Time ok = (b', ok') ∧
      ((ok' = false ∧ ∀ m ∈ l, ¬ Fit race who f t m) ∨ (ok' = true ∧ b' ∈ l ∧ Fit race who f t b' ∧ ∀ m ∈ l, Fit race who f t m → b'.Time ≤ m.Time)) := by
  intro ys
  induction ys with
  | nil => intro dn i b ok h1 h2; rw [List.append_nil] at h1; subst h1; exact ⟨b, ok, rfl, h2⟩
  | cons y ys ih =>
    intro dn i b ok h1 h2
    rw [swimmer_best_l1]
    simp only [join_eq]
    have h1' : l = (dn ++ [y]) ++ ys := by rw [h1]; simp
    have hfit : ((((!decide (y.Race = race)) || (!decide (y.Who = who))) || (decide (y.Day < f))) || (decide (t < y.Day))) = true ↔ ¬ Fit race who f t y := by
      unfold Fit
      simp only [Bool.or_eq_true, Bool.not_eq_true', decide_eq_false_iff_not, decide_eq_true_eq]
      constructor
      · rintro (((h | h) | h) | h) ⟨g1, g2, g3, g4⟩
        · exact h g1
        · exact h g2
        · omega
        · omega
      · intro h
        by_cases g1 : y.Race = race
        · by_cases g2 : y.Who = who
          · by_cases g3 : y.Day < f
            · exact .inl (.inr g3)
            · refine .inr (Classical.byContradiction fun g4 => h ⟨g1, g2, by omega, by omega⟩)
          · exact .inl (.inl (.inr g2))
        · exact .inl (.inl (.inl g1))
    by_cases hy : Fit race who f t y
    · rw [if_neg (by rw [hfit]; exact fun h => h hy)]
      have take : (∀ m ∈ dn, Fit race who f t m → y.Time ≤ m.Time) → ∃ b' ok', swimmer_best_l1 race who f t (fun x1 x2 x3 x4 x5 => (GMark.mk x1 x2 x3 x4, x5)) ys (i + 1) y.Who y.Race y.Day y.Time true = (b', ok') ∧
          ((ok' = false ∧ ∀ m ∈ l, ¬ Fit race who f t m) ∨ (ok' = true ∧ b' ∈ l ∧ Fit race who f t b' ∧ ∀ m ∈ l, Fit race who f t m → b'.Time ≤ m.Time)) := fun h =>
        ih (dn ++ [y]) (i + 1) y true h1' (.inr ⟨rfl, by simp, hy, fun m hm hf => by
          rcases List.mem_append.1 hm with h' | h'
          · exact h m h' hf
          · rw [List.mem_singleton] at h'; subst h'; exact Int.le_refl _⟩)
      cases ok with
      | false =>
        rcases h2 with ⟨_, h2⟩ | ⟨h2, _⟩
        · simp only [Bool.not_false, if_true]
          exact take fun m hm hf => (h2 m hm hf).elim
        · cases h2
      | true =>
        rcases h2 with ⟨h2, _⟩ | ⟨_, g1, g2, g3⟩
        · cases h2
        · simp only [Bool.not_true, Bool.false_eq_true, if_false]
          obtain ⟨o1, o2⟩ := ord_lt y.Time b.Time y.Day b.Day
          by_cases ho : cmp_Or_int [cmp_Compare_int y.Time b.Time, cmp_Compare_int y.Day b.Day] < 0
          · rw [if_pos (decide_eq_true ho)]
            exact take fun m hm hf => Int.le_trans (o1 ho) (g3 m hm hf)
          · rw [if_neg (by simpa using ho)]
            exact ih (dn ++ [y]) (i + 1) b true h1' (.inr ⟨rfl, List.mem_append.2 (.inl g1), g2, fun m hm hf => by
              rcases List.mem_append.1 hm with h' | h'
              · exact g3 m h' hf
              · rw [List.mem_singleton] at h'; subst h'; exact o2 ho⟩)
    · rw [if_pos (hfit.2 hy)]
      refine ih (dn ++ [y]) (i + 1) b ok h1' ?_
      rcases h2 with ⟨g0, g1⟩ | ⟨g0, g1, g2, g3⟩
      · exact .inl ⟨g0, fun m hm => by
          rcases List.mem_append.1 hm with h' | h'
          · exact g1 m h'
          · rw [List.mem_singleton] at h'; subst h'; exact hy⟩
      · exact .inr ⟨g0, List.mem_append.2 (.inl g1), g2, fun m hm hf => by
          rcases List.mem_append.1 hm with h' | h'
          · exact g3 m h' hf
          · rw [List.mem_singleton] at h'; subst h'; exact (hy hf).elim⟩
theorem best_is (l : List GMark) (race who : ByteArray) (f t : Int) : ∃ b ok, swimmer_best l race who f t = (b, ok) ∧
      ((ok = false ∧ ∀ m ∈ l, ¬ Fit race who f t m) ∨ (ok = true ∧ b ∈ l ∧ Fit race who f t b ∧ ∀ m ∈ l, Fit race who f t m → b.Time ≤ m.Time)) :=
  best_l race who f t l l [] 0 ⟨k_empty, k_empty, 0, 0⟩ false rfl (.inl ⟨rfl, fun _ h => by cases h⟩)
end Go.Proofs.YtmoigiaomdkfiaaDoor
