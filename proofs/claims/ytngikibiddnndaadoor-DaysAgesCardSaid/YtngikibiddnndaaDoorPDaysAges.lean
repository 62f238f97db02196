/- The plain law of DaysAges. No program stands here but its twins. -/
import Derived.Test.YtngikibiddnndaaDoorPSwimS
import Derived.Test.YtngikibiddnndaaDoorPAge
namespace Go.Proofs.YtngikibiddnndaaDoor
open Go
theorem day_dr {L : List Int} (hL : LongL L) {a : Int} (h0 : 0 ≤ a) (h1 : a ≤ 100000000) : Dr a 3 (fun _ => True) (Stream_Day L a) := by
  unfold Stream_Day
  obtain ⟨d, b, e, g1, g2, g3, g4⟩ := range_dr hL h0 (by omega) (-40000) 4000 (by omega) (by omega) (by omega)
  rw [e]; simp only [Option.bind_some, join_eq]
  obtain ⟨g, e1, _⟩ := dateFor_ok (day := d) (by omega) (by omega)
  rw [e1]; simp only [Option.bind_some]
  obtain ⟨v, b2, e2, g5, g6, _⟩ := next_dr hL (a := b) (by omega) (by omega) 8 (by omega)
  rw [e2]; simp only [Option.bind_some]
  have key : ∀ l : List Int, 0 < l.length → l.length ≤ 1000 → Dr b2 1 (fun _ => True) (Stream_Pick L b2 l) := fun l hl hl' => by
    obtain ⟨v, c, e, g7, g8, _⟩ := pick_dr hL (a := b2) (by omega) (by omega) l hl hl'
    exact ⟨v, c, e, g7, g8, trivial⟩
  by_cases c0 : v = 0
  · obtain ⟨p, b3, e3, g7, g8, _⟩ := key [28, 29, 30] (by simp) (by simp)
    rw [if_pos (decide_eq_true c0), e3]; exact ⟨_, _, rfl, by omega, by omega, trivial⟩
  rw [if_neg (by simpa using c0)]
  by_cases c1 : v = 1
  · obtain ⟨p, b3, e3, g7, g8, _⟩ := key [0, 30, 31, 32, (-1)] (by simp) (by simp)
    rw [if_pos (decide_eq_true c1), e3]; exact ⟨_, _, rfl, by omega, by omega, trivial⟩
  rw [if_neg (by simpa using c1)]
  by_cases c2 : v = 2
  · obtain ⟨p, b3, e3, g7, g8, _⟩ := key [0, 13, 12, 1] (by simp) (by simp)
    rw [if_pos (decide_eq_true c2), e3]; exact ⟨_, _, rfl, by omega, by omega, trivial⟩
  rw [if_neg (by simpa using c2)]
  by_cases c3 : v = 3
  · obtain ⟨p, b3, e3, g7, g8, _⟩ := key [1914, 1913, 1900, 2000, 2034, 2035, 2036, 0, (-4), 1099511627776] (by simp) (by simp)
    rw [if_pos (decide_eq_true c3), e3]; exact ⟨_, _, rfl, by omega, by omega, trivial⟩
  rw [if_neg (by simpa using c3)]
  exact ⟨_, _, rfl, by omega, by omega, trivial⟩
theorem dated_ok : tumblaw2_dated = some true := by decide +kernel
theorem plain_DaysAges (l : List Int) (hl : l.length ≤ 9223372036854775807) : tumblaw2_DaysAges l = some true := by
  have hL : LongL l := by unfold LongL; omega
  obtain ⟨day, a1, e1, p1, q1, d1, d2⟩ := range_dr hL (a := 0) (by omega) (by omega) (-40001) 4001 (by omega) (by omega) (by omega)
  obtain ⟨d, a2, e2, p2, q2, _⟩ := day_dr hL (a := a1) (by omega) (by omega)
  obtain ⟨x, a3, e3, p3, q3, hx⟩ := swimmers_dr hL (a := a2) (by omega) (by omega)
  obtain ⟨way, a4, e4, p4, q4, _⟩ := pick_dr hL (a := a3) (by omega) (by omega) [1, 2, 1, 2, 0, 3] (by simp) (by simp)
  obtain ⟨born, a5, e5, p5, q5, _⟩ := pick_dr hL (a := a4) (by omega) (by omega) [59, 0, (-1), (-307), 425] (by simp) (by simp)
  obtain ⟨f, s1, s2, _⟩ := swim_eq x
  unfold tumblaw2_DaysAges
  rw [e1]; simp only [Option.bind_some]
  rw [e2]; simp only [Option.bind_some]
  rw [e3]; simp only [Option.bind_some]
  rw [e4]; simp only [Option.bind_some]
  rw [dayOf_ok, dayFor_ok, s1, s2, e5]
  have hw : tumblaw2_when (!(tumbref2_Day day)) 1 = if -40000 ≤ day ∧ day ≤ 4000 then 0 else 1 := by
    unfold tumblaw2_when tumbref2_Day tumbref2_in
    by_cases h : -40000 ≤ day ∧ day ≤ 4000
    · simp [h]
    · rw [if_pos (by simp; omega), if_neg h]
  have age : ∀ (who : GSwimmer) (b : Int), 0 ≤ b → b ≤ 1000 → (Option.bind (Stream_MeetDay l b) fun r14 => Option.bind (swimmer_Age who r14.1 way) fun r15 => Option.bind (tumbref2_AgeFault who r14.1 way) fun r16 =>
      Join (fun (x6 : Int) => Join (fun (c1 : Bool) => some c1) (fun j4 =>
        if ((decide (r15.2 = r16)) && (decide (r15.1 = x6))) then Option.bind (tumblaw2_dated) (fun r18 => j4 (((decide (r15.2 = r16)) && (decide (r15.1 = x6))) && r18)) else j4 (((decide (r15.2 = r16)) && (decide (r15.1 = x6))) && true))) (fun j3 =>
      if decide (r16 = 0) then Option.bind (tumbref2_AgeFor who r14.1 way) (fun r17 => j3 r17) else j3 0)) = some true := by
    intro who b h0 h1
    obtain ⟨m, c, e, _⟩ := meetDay_dr hL (a := b) h0 (by omega)
    rw [e]; simp only [Option.bind_some]
    obtain ⟨n, ff, t1, t2, t3, t4⟩ := age_law who m way
    rw [t1, t2]
    simp only [Option.bind_some, join_eq, dated_ok]
    by_cases hf : ff = 0
    · rw [if_pos (decide_eq_true hf), t3 hf]
      simp
    · rw [if_neg (by simpa using hf), t4 hf]
      simp
  have who : ∀ (k : ByteArray → Int → Int → Int → Option Bool), (∀ (s : ByteArray) (y z b : Int), 0 ≤ b → b ≤ 1000 → k s y z b = some true) →
      (if decide (0 < (x.length : Int)) then Option.bind (Stream_Next l a5 (x.length : Int)) (fun r13 => Chk (inB r13.1 x.length) (k ((nth x r13.1).Key) ((nth x r13.1).Sex) ((nth x r13.1).Born) r13.2)) else k k_ann 1 born a5) = some true := by
    intro k hk
    by_cases hx0 : 0 < (x.length : Int)
    · rw [if_pos (decide_eq_true hx0)]
      obtain ⟨i, b2, e6, g6, g7, g8⟩ := next_dr hL (a := a5) (by omega) (by omega) (x.length : Int) (by omega)
      rw [e6]; simp only [Option.bind_some]
      rw [chk_pos (inB_iff.2 ⟨g8.1, by omega⟩)]
      exact hk _ _ _ _ (by omega) (by omega)
    · rw [if_neg (by simpa using hx0)]
      exact hk _ _ _ _ (by omega) (by omega)
  by_cases h : -40000 ≤ day ∧ day ≤ 4000
  · obtain ⟨g, t1, t2, _⟩ := dates_eq h.1 (by omega : day ≤ 4001)
    have hd : swimmer_DateOf day = some (g, 0) := by
      unfold swimmer_DateOf swimmer_isDay words_Within
      rw [if_neg (by simp [h.1, h.2]), t1]; rfl
    rw [hw, if_pos h, hd, t2]
    simp only [Option.bind_some, join_eq, decide_true, Bool.not_true, Bool.false_eq_true, if_false, if_true, Bool.or_false, Bool.false_and, Bool.or_self]
    exact who _ fun s y z b g1 g2 => age ⟨s, y, z⟩ b g1 g2
  · have hd : swimmer_DateOf day = some (GDate.mk 0 0 0, 1) := by
      unfold swimmer_DateOf swimmer_isDay words_Within
      rw [if_pos (by simp; omega)]
    rw [hw, if_neg h, hd]
    simp only [Option.bind_some, join_eq, decide_true, Bool.not_true, Bool.false_eq_true, if_false, if_true, Bool.or_false, Bool.and_false, Bool.or_self, show (1 : Int) ≠ 0 by decide, decide_false]
    exact who _ fun s y z b g1 g2 => age ⟨s, y, z⟩ b g1 g2
end Go.Proofs.YtngikibiddnndaaDoor
