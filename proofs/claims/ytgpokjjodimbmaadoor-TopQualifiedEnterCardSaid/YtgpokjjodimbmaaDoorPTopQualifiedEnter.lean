/- The plain law of TopQualifiedEnter. No program stands here but its twins. -/
import Derived.Test.YtgpokjjodimbmaaDoorPStr
namespace Go.Proofs.YtgpokjjodimbmaaDoor
open Go
theorem facts_ok : tumbtop_h10facts = some true := by decide +kernel
/-- A mark as the stream gives it. -/
def MkS (m : GMark) : Prop := m.Who ∈ [k_ann, k_bea, k_empty] ∧ m.Race ∈ [k_ra, k_rb, k_A]
theorem marks_l {L : List Int} (hL : LongL L) (many : Int) (hm : many ≤ 100) : ∀ (m : Nat) (x1 : List GMark) (a x3 : Int), 0 ≤ x3 → x3 ≤ 1000 → many - x3 < (m : Int) → 0 ≤ a → a + 12 * m ≤ 10000000 → x1.length + m ≤ 100000 → (∀ p ∈ x1, MkS p) →
    ∃ x b, Stream_Marks_l1 many L (fun x a => some (x, a)) (m + 1) x1 a x3 = some (x, b) ∧ a ≤ b ∧ b ≤ a + 12 * m ∧ x.length ≤ x1.length + m ∧ ∀ p ∈ x, MkS p
  | m, x1, a, x3, h1, h2, h3, h4, h5, h6, h7 => by
    rw [Stream_Marks_l1]
    by_cases hc : x3 < many
    · rw [if_pos (decide_eq_true hc)]
      cases m with
      | zero => omega
      | succ m =>
        obtain ⟨v1, b1, e1, g1, g2, q1⟩ := some_dr hL h4 (by omega) [k_ann, k_ann, k_bea] (by simp) (by simp)
        rw [e1]; simp only [Option.bind_some]
        obtain ⟨v2, b2, e2, g3, g4, q2⟩ := some_dr hL (a := b1) (by omega) (by omega) [k_ra, k_ra, k_rb] (by simp) (by simp)
        rw [e2]; simp only [Option.bind_some]
        obtain ⟨v3, b3, e3, g5, g6, _⟩ := range_dr hL (a := b2) (by omega) (by omega) 0 10 (by omega) (by omega) (by omega)
        rw [e3]; simp only [Option.bind_some]
        obtain ⟨v4, b4, e4, g7, g8, _⟩ := pick_dr hL (a := b3) (by omega) (by omega) [5900, 5900, 6000, 6100] (by simp) (by simp)
        rw [e4]; simp only [Option.bind_some]
        obtain ⟨f, b5, e5, g9, g10, _⟩ := flip_dr hL (a := b4) (by omega) (by omega) 80 (by omega)
        rw [e5]; simp only [Option.bind_some, join_eq]
        have hw1 : v1 ∈ [k_ann, k_bea, k_empty] := by
          simp only [List.mem_cons, List.not_mem_nil, or_false] at q1 ⊢
          rcases q1 with h | h | h
          · exact .inl h
          · exact .inl h
          · exact .inr (.inl h)
        have hw2 : v2 ∈ [k_ra, k_rb, k_A] := by
          simp only [List.mem_cons, List.not_mem_nil, or_false] at q2 ⊢
          rcases q2 with h | h | h
          · exact .inl h
          · exact .inl h
          · exact .inr (.inl h)
        have step : ∀ (s t : ByteArray) (d z c : Int), s ∈ [k_ann, k_bea, k_empty] → t ∈ [k_ra, k_rb, k_A] → a ≤ c → c ≤ a + 12 → ∃ x b, (Chk (room x1.length) (Stream_Marks_l1 many L (fun x a => some (x, a)) (m + 1) (x1 ++ [GMark.mk s t d z]) c (W (x3 + 1)))) = some (x, b) ∧ a ≤ b ∧ b ≤ a + 12 * ((m + 1 : Nat) : Int) ∧ x.length ≤ x1.length + (m + 1) ∧ ∀ p ∈ x, MkS p := by
          intro s t d z c hs ht hc1 hc2
          rw [chk_pos (by unfold room; simp; omega), W_in (n := x3 + 1) (by omega) (by omega)]
          obtain ⟨x, b, r1, r2, r3, r4, r5⟩ := marks_l hL many hm m (x1 ++ [GMark.mk s t d z]) c (x3 + 1) (by omega) (by omega) (by omega) (by omega) (by omega) (by simp; omega) (fun p hp => by
            rcases List.mem_append.1 hp with h | h
            · exact h7 p h
            · rw [List.mem_singleton] at h; subst h; exact ⟨hs, ht⟩)
          exact ⟨x, b, r1, by omega, by push_cast; omega, by simp at r4; omega, r5⟩
        cases f with
        | false => rw [if_neg (by simp)]; exact step v1 v2 v3 v4 b5 hw1 hw2 (by omega) (by omega)
        | true =>
          rw [if_pos rfl]
          obtain ⟨u1, c1, t1, w1, w2, z1⟩ := some_dr hL (a := b5) (by omega) (by omega) [v1, k_empty] (by simp) (by simp)
          rw [t1]; simp only [Option.bind_some]
          obtain ⟨u2, c2, t2, w3, w4, z2⟩ := some_dr hL (a := c1) (by omega) (by omega) [v2, k_A] (by simp) (by simp)
          rw [t2]; simp only [Option.bind_some]
          obtain ⟨u3, c3, t3, w5, w6, _⟩ := odd_dr hL (a := c2) (by omega) (by omega) (-40000) 4000 (by omega) (by omega) (by omega)
          rw [t3]; simp only [Option.bind_some]
          obtain ⟨u4, c4, t4, w7, w8, _⟩ := odd_dr hL (a := c3) (by omega) (by omega) 1 360000 (by omega) (by omega) (by omega)
          rw [t4]; simp only [Option.bind_some]
          refine step u1 u2 u3 u4 c4 ?_ ?_ (by omega) (by omega)
          · simp only [List.mem_cons, List.not_mem_nil, or_false] at z1
            rcases z1 with rfl | rfl
            · exact hw1
            · simp
          · simp only [List.mem_cons, List.not_mem_nil, or_false] at z2
            rcases z2 with rfl | rfl
            · exact hw2
            · simp
    · rw [if_neg (by simpa using hc)]
      exact ⟨x1, a, rfl, by omega, by omega, by omega, h7⟩
theorem marks_dr {L : List Int} (hL : LongL L) {a : Int} (h0 : 0 ≤ a) (h1 : a ≤ 1000000) (many : Int) (hm0 : 0 ≤ many) (hm : many ≤ 8) : Dr a 200 (fun x => x.length ≤ 20 ∧ ∀ p ∈ x, MkS p) (Stream_Marks L a many) := by
  unfold Stream_Marks
  simp only [join_eq]
  obtain ⟨x, b, e, g1, g2, g3, g4⟩ := marks_l hL many (by omega) ((many - 0).toNat + 1) [] a 0 (by omega) (by omega) (by omega) h0 (by omega) (by simp; omega) (fun _ h => by cases h)
  exact ⟨x, b, e, g1, by omega, by simp at g3; omega, g4⟩
theorem index_c1 : ∀ (l : List GMark) (i : Nat), decide (0 ≤ slices_IndexFunc_Mark_tumbtop_TopQualifiedEnter_c1_l1 (-1) l i) = l.any tumbtop_TopQualifiedEnter_c1
  | [], i => rfl
  | y :: l, i => by
    rw [slices_IndexFunc_Mark_tumbtop_TopQualifiedEnter_c1_l1, List.any_cons]
    by_cases h : tumbtop_TopQualifiedEnter_c1 y = true
    · simp [h]
    · rw [if_neg h, index_c1 l (i + 1)]; simp [h]
theorem contains_c1 (l : List GMark) : slices_ContainsFunc_Mark_tumbtop_TopQualifiedEnter_c1 l = l.any tumbtop_TopQualifiedEnter_c1 := index_c1 l 0
theorem who_key {s : ByteArray} (h : s ∈ [k_ann, k_bea, k_empty]) : words_IsKey s = some (!decide (s = k_empty)) := by
  simp only [List.mem_cons, List.not_mem_nil, or_false] at h
  rcases h with rfl | rfl | rfl <;> decide +kernel
theorem race_key {s : ByteArray} (h : s ∈ [k_ra, k_rb, k_A]) : words_IsKey s = some (!decide (s = k_A)) := by
  simp only [List.mem_cons, List.not_mem_nil, or_false] at h
  rcases h with rfl | rfl | rfl <;> decide +kernel
theorem checkMarks_l : ∀ (l : List GMark) (i : Nat), (∀ p ∈ l, MkS p) → ∃ e, swimmer_CheckMarks_l1 (some 0) l i = some e ∧ decide (e = 0) = !(l.any tumbtop_TopQualifiedEnter_c1)
  | [], i, _ => ⟨0, rfl, rfl⟩
  | y :: l, i, h => by
    obtain ⟨h1, h2⟩ := h y List.mem_cons_self
    obtain ⟨e, e1, e2⟩ := checkMarks_l l (i + 1) fun p hp => h p (List.mem_cons_of_mem _ hp)
    rw [swimmer_CheckMarks_l1, who_key h1, race_key h2, List.any_cons]
    simp only [Option.bind_some, join_eq]
    unfold swimmer_isDay timing_IsTime words_Within
    have hd : tumbtop_TopQualifiedEnter_c1 y = ((decide (y.Who = k_empty) || decide (y.Race = k_A)) || (!(decide (-40000 ≤ y.Day) && decide (y.Day ≤ 4000)) || !(decide (1 ≤ y.Time) && decide (y.Time ≤ 360000)))) := by
      unfold tumbtop_TopQualifiedEnter_c1
      rw [Bool.eq_iff_iff]
      simp only [Bool.or_eq_true, decide_eq_true_eq, Bool.not_eq_true', Bool.and_eq_false_iff, decide_eq_false_iff_not]
      constructor
      · rintro (((((h | h) | h) | h) | h) | h)
        · exact .inl (.inl h)
        · exact .inl (.inr h)
        · exact .inr (.inr (.inl (by omega)))
        · exact .inr (.inr (.inr (by omega)))
        · exact .inr (.inl (.inl (by omega)))
        · exact .inr (.inl (.inr (by omega)))
      · rintro ((h | h) | ((h | h) | (h | h)))
        · simp [h]
        · simp [h]
        · have : y.Day < -40000 := by omega
          simp [this]
        · have : 4000 < y.Day := by omega
          simp [this]
        · have : y.Time < 1 := by omega
          simp [this]
        · have : 360000 < y.Time := by omega
          simp [this]
    rw [hd]
    by_cases c1 : y.Who = k_empty
    · exact ⟨5, by simp [c1], by simp [c1]⟩
    · by_cases c2 : y.Race = k_A
      · exact ⟨5, by simp [c1, c2], by simp [c1, c2]⟩
      · simp only [c1, c2, decide_false, Bool.not_false, Bool.not_true, Bool.or_self, Bool.false_eq_true, if_false, Bool.false_or]
        by_cases c3 : ((!(decide (-40000 ≤ y.Day) && decide (y.Day ≤ 4000)) || !(decide (1 ≤ y.Time) && decide (y.Time ≤ 360000)))) = true
        · rw [if_pos c3, c3]; exact ⟨1, rfl, rfl⟩
        · rw [if_neg c3, e1]
          rw [Bool.not_eq_true] at c3
          exact ⟨e, rfl, by rw [c3, e2]; rfl⟩
theorem checkMarks_eq (l : List GMark) (hl : l.length ≤ 20) (h : ∀ p ∈ l, MkS p) : ∃ e, swimmer_CheckMarks l = some e ∧ decide (e = 0) = !(l.any tumbtop_TopQualifiedEnter_c1) := by
  unfold swimmer_CheckMarks
  rw [if_neg (by simp; omega), join_eq]
  exact checkMarks_l l 0 h
/-- A mark that counts. -/
def Fit (race who : ByteArray) (f t : Int) (m : GMark) : Prop := m.Race = race ∧ m.Who = who ∧ f ≤ m.Day ∧ m.Day ≤ t
theorem ord_lt (a b c d : Int) : ((cmp_Or_int [cmp_Compare_int a b, cmp_Compare_int c d] < 0) → a ≤ b) ∧ (¬ (cmp_Or_int [cmp_Compare_int a b, cmp_Compare_int c d] < 0) → b ≤ a) := by
  have hz : ∀ x y : Int, cmp_Compare_int x y = if x < y then -1 else if y < x then 1 else 0 := by
    intro x y; unfold cmp_Compare_int cmp_isNaN_int; simp
  have ho : ∀ x y : Int, cmp_Or_int [x, y] = if x ≠ 0 then x else y := by
    intro x y
    unfold cmp_Or_int
    simp only [join_eq, cmp_Or_int_l1]
    by_cases h1 : x = 0
    · by_cases h2 : y = 0 <;> simp [h1, h2]
    · simp [h1]
  rw [ho, hz, hz]
  by_cases h1 : a < b
  · simp [h1]; omega
  · by_cases h2 : b < a
    · simp [h1, h2]; omega
    · have : a = b := by omega
      subst this; simp
theorem best_l (race who : ByteArray) (f t : Int) (l : List GMark) : ∀ (ys dn : List GMark) (i : Nat) (b : GMark) (ok : Bool), l = dn ++ ys →
    ((ok = false ∧ ∀ m ∈ dn, ¬ Fit race who f t m) ∨ (ok = true ∧ b ∈ dn ∧ Fit race who f t b ∧ ∀ m ∈ dn, Fit race who f t m → b.Time ≤ m.Time)) →
    ∃ b' ok', swimmer_best_l1 race who f t (fun x1 x2 x3 x4 x5 => (GMark.mk x1 x2 x3 x4, x5)) ys i b.Who b.Race b.Day b.Time ok = (b', ok') ∧
      ((ok' = false ∧ ∀ m ∈ l, ¬ Fit race who f t m) ∨ (ok' = true ∧ b' ∈ l ∧ Fit race who f t b' ∧ ∀ m ∈ l, Fit race who f t m → b'.Time ≤ m.Time)) := by
  intro ys
  induction ys with
  | nil => intro dn i b ok h1 h2; rw [List.append_nil] at h1; subst h1; exact ⟨b, ok, rfl, h2⟩
  | cons y ys ih =>
    intro dn i b ok h1 h2
    rw [swimmer_best_l1]
    simp only [join_eq]
    have h1' : l = (dn ++ [y]) ++ ys := by rw [h1]; simp
    have hfit : ((((!decide (y.Race = race)) || (!decide (y.Who = who))) || (decide (y.Day < f))) || (decide (t < y.Day))) = true ↔ ¬ Fit race who f t y := by
      unfold Fit
      simp only [Bool.or_eq_true, Bool.not_eq_true', decide_eq_false_iff_not, decide_eq_true_eq]
      constructor
      · rintro (((h | h) | h) | h) ⟨g1, g2, g3, g4⟩
        · exact h g1
        · exact h g2
        · omega
        · omega
      · intro h
        by_cases g1 : y.Race = race
        · by_cases g2 : y.Who = who
          · by_cases g3 : y.Day < f
            · exact .inl (.inr g3)
            · refine .inr (Classical.byContradiction fun g4 => h ⟨g1, g2, by omega, by omega⟩)
          · exact .inl (.inl (.inr g2))
        · exact .inl (.inl (.inl g1))
    by_cases hy : Fit race who f t y
    · rw [if_neg (by rw [hfit]; exact fun h => h hy)]
      have take : (∀ m ∈ dn, Fit race who f t m → y.Time ≤ m.Time) → ∃ b' ok', swimmer_best_l1 race who f t (fun x1 x2 x3 x4 x5 => (GMark.mk x1 x2 x3 x4, x5)) ys (i + 1) y.Who y.Race y.Day y.Time true = (b', ok') ∧
          ((ok' = false ∧ ∀ m ∈ l, ¬ Fit race who f t m) ∨ (ok' = true ∧ b' ∈ l ∧ Fit race who f t b' ∧ ∀ m ∈ l, Fit race who f t m → b'.Time ≤ m.Time)) := fun h =>
        ih (dn ++ [y]) (i + 1) y true h1' (.inr ⟨rfl, by simp, hy, fun m hm hf => by
          rcases List.mem_append.1 hm with h' | h'
          · exact h m h' hf
          · rw [List.mem_singleton] at h'; subst h'; exact Int.le_refl _⟩)
      cases ok with
      | false =>
        rcases h2 with ⟨_, h2⟩ | ⟨h2, _⟩
        · simp only [Bool.not_false, if_true]
          exact take fun m hm hf => (h2 m hm hf).elim
        · cases h2
      | true =>
        rcases h2 with ⟨h2, _⟩ | ⟨_, g1, g2, g3⟩
        · cases h2
        · simp only [Bool.not_true, Bool.false_eq_true, if_false]
          obtain ⟨o1, o2⟩ := ord_lt y.Time b.Time y.Day b.Day
          by_cases ho : cmp_Or_int [cmp_Compare_int y.Time b.Time, cmp_Compare_int y.Day b.Day] < 0
          · rw [if_pos (decide_eq_true ho)]
            exact take fun m hm hf => Int.le_trans (o1 ho) (g3 m hm hf)
          · rw [if_neg (by simpa using ho)]
            exact ih (dn ++ [y]) (i + 1) b true h1' (.inr ⟨rfl, List.mem_append.2 (.inl g1), g2, fun m hm hf => by
              rcases List.mem_append.1 hm with h' | h'
              · exact g3 m h' hf
              · rw [List.mem_singleton] at h'; subst h'; exact o2 ho⟩)
    · rw [if_pos (hfit.2 hy)]
      refine ih (dn ++ [y]) (i + 1) b ok h1' ?_
      rcases h2 with ⟨g0, g1⟩ | ⟨g0, g1, g2, g3⟩
      · exact .inl ⟨g0, fun m hm => by
          rcases List.mem_append.1 hm with h' | h'
          · exact g1 m h'
          · rw [List.mem_singleton] at h'; subst h'; exact hy⟩
      · exact .inr ⟨g0, List.mem_append.2 (.inl g1), g2, fun m hm hf => by
          rcases List.mem_append.1 hm with h' | h'
          · exact g3 m h' hf
          · rw [List.mem_singleton] at h'; subst h'; exact (hy hf).elim⟩
theorem best_is (l : List GMark) (race who : ByteArray) (f t : Int) : ∃ b ok, swimmer_best l race who f t = (b, ok) ∧
      ((ok = false ∧ ∀ m ∈ l, ¬ Fit race who f t m) ∨ (ok = true ∧ b ∈ l ∧ Fit race who f t b ∧ ∀ m ∈ l, Fit race who f t m → b.Time ≤ m.Time)) :=
  best_l race who f t l l [] 0 ⟨k_empty, k_empty, 0, 0⟩ false rfl (.inl ⟨rfl, fun _ h => by cases h⟩)
theorem qual_one (l : List GMark) (hm : swimmer_CheckMarks l = some 0) (z f t : Int) (h1 : 1 ≤ z) (h2 : z ≤ 360000) (h3 : -40000 ≤ f) (h4 : f ≤ t) (h5 : t ≤ 4000) :
    swimmer_Qualified [GStandard.mk k_ra z f t] l k_ra k_ann = some ((swimmer_best l k_ra k_ann f t).2 && decide ((swimmer_best l k_ra k_ann f t).1.Time ≤ z), 0) := by
  have hk : words_IsKey k_ra = some true := by decide +kernel
  have hk2 : words_IsKey k_ann = some true := by decide +kernel
  have hc : swimmer_CheckStandards [GStandard.mk k_ra z f t] = some 0 := by
    unfold swimmer_CheckStandards
    rw [if_neg (by simp), join_eq, swimmer_CheckStandards_l1, hk]
    have : (((!(timing_IsTime z)) || (!(words_Within f (-40000) t))) || (decide (4000 < t))) = false := by
      unfold timing_IsTime words_Within
      simp [h1, h2, h3, h4, h5]
    simp only [Option.bind_some, Bool.not_true, Bool.false_eq_true, if_false, this, join_eq]
    rfl
  unfold swimmer_Qualified
  rw [hc, hm, hk, hk2]
  simp only [Option.bind_some, decide_true, Bool.not_true, Bool.false_eq_true, if_false, join_eq, Bool.or_self, swimmer_Qualified_l1]
  cases h : ((swimmer_best l k_ra k_ann f t).2 && decide ((swimmer_best l k_ra k_ann f t).1.Time ≤ z)) <;> simp
theorem plain_TopQualifiedEnter (l : List Int) (hl : l.length ≤ 9223372036854775807) : tumbtop_TopQualifiedEnter l = some true := by
  have hL : LongL l := by unfold LongL; omega
  obtain ⟨k, a1, e1, p1, q1, k1, k2⟩ := range_dr hL (a := 0) (by omega) (by omega) 1 8 (by omega) (by omega) (by omega)
  obtain ⟨m, a2, e2, p2, q2, hm, hS⟩ := marks_dr hL (a := a1) (by omega) (by omega) k (by omega) (by omega)
  obtain ⟨e, c1, c2⟩ := checkMarks_eq m hm hS
  have hk : words_IsKey k_ra = some true := by decide +kernel
  have hk2 : words_IsKey k_ann = some true := by decide +kernel
  unfold tumbtop_TopQualifiedEnter
  rw [e1]; simp only [Option.bind_some]
  rw [e2]; simp only [Option.bind_some]
  unfold swimmer_Best
  rw [c1, hk, hk2]
  simp only [Option.bind_some, join_eq, Bool.not_true, Bool.or_self, Bool.false_eq_true, if_false, contains_c1, facts_ok]
  have hw : ((!(words_Within 0 (-40000) 10)) || decide ((4000 : Int) < 10)) = false := by decide +kernel
  rw [hw]
  by_cases he : e = 0
  · subst he
    have hany : m.any tumbtop_TopQualifiedEnter_c1 = false := by
      have : true = !(m.any tumbtop_TopQualifiedEnter_c1) := by simpa using c2
      cases h : m.any tumbtop_TopQualifiedEnter_c1
      · rfl
      · rw [h] at this; cases this
    obtain ⟨b, ok, b1, b2⟩ := best_is m k_ra k_ann 0 10
    simp only [decide_true, Bool.not_true, Bool.false_eq_true, if_false, b1, Option.bind_some, Bool.false_or]
    rcases b2 with ⟨rfl, _⟩ | ⟨rfl, g1, g2, g3⟩
    · simp [hany]
    · have hb : tumbtop_TopQualifiedEnter_c1 b = false := by
        have := List.any_eq_false.1 hany b g1
        simpa using this
      unfold tumbtop_TopQualifiedEnter_c1 at hb
      simp only [Bool.or_eq_false_iff, decide_eq_false_iff_not] at hb
      obtain ⟨⟨⟨⟨⟨_, _⟩, t1⟩, t2⟩, t3⟩, t4⟩ := hb
      have hmx : 1 ≤ imax 1 (W (b.Time - 1)) ∧ imax 1 (W (b.Time - 1)) ≤ 360000 ∧ (b.Time ≤ imax 1 (W (b.Time - 1)) → b.Time = 1) := by
        rw [W_in (by omega) (by omega)]; unfold imax; split <;> omega
      have f1 := qual_one m c1 b.Time b.Day b.Day (by omega) (by omega) (by omega) (Int.le_refl _) (by omega)
      have f2 := qual_one m c1 (imax 1 (W (b.Time - 1))) 0 10 hmx.1 hmx.2.1 (by omega) (by omega) (by omega)
      obtain ⟨d, ok2, d1, d2⟩ := best_is m k_ra k_ann b.Day b.Day
      have hd : ok2 = true ∧ d.Time ≤ b.Time := by
        rcases d2 with ⟨_, d2⟩ | ⟨d2, _, _, d3⟩
        · exact (d2 b g1 ⟨g2.1, g2.2.1, Int.le_refl _, Int.le_refl _⟩).elim
        · exact ⟨d2, d3 b g1 ⟨g2.1, g2.2.1, Int.le_refl _, Int.le_refl _⟩⟩
      rw [d1] at f1; rw [b1] at f2
      simp only [Bool.not_true, Bool.false_eq_true, if_false, f1, f2, Option.bind_some, hd.1, hd.2, decide_true, Bool.true_and, Bool.and_self]
      by_cases h1 : b.Time = 1
      · simp [h1]
      · have : ¬ b.Time ≤ imax 1 (W (b.Time - 1)) := fun h => h1 (hmx.2.2 h)
        simp [h1, this]
  · have hany : m.any tumbtop_TopQualifiedEnter_c1 = true := by
      have : false = !(m.any tumbtop_TopQualifiedEnter_c1) := by simpa [he] using c2
      cases h : m.any tumbtop_TopQualifiedEnter_c1
      · rw [h] at this; cases this
      · rfl
    simp [he, hany]
end Go.Proofs.YtgpokjjodimbmaaDoor
