/- The program's check of moves, and its clubs, are the reference's. No program stands here but its twins. -/
import Derived.Test.YtmngaaffadcccaaGreatDoorPBytes
import Derived.Test.YtmngaaffadcccaaGreatDoorPSwim
namespace Go.Proofs.YtmngaaffadcccaaGreatDoor
open Go
theorem cmpInt (x y : Int) : cmp_Compare_int x y = if x < y then -1 else if y < x then 1 else 0 := by
  unfold cmp_Compare_int cmp_isNaN_int
  simp
theorem orI (a b : Int) : cmp_Or_int [a, b] = if a ≠ 0 then a else b := by
  unfold cmp_Or_int
  simp only [join_eq, cmp_Or_int_l1]
  by_cases h1 : a = 0
  · by_cases h2 : b = 0
    · simp [h1, h2]
    · simp [h1, h2]
  · simp [h1]
/-- A move whose numbers are as they must be. -/
def MDay (x : GMove) : Prop := -40000 ≤ x.Day ∧ x.Day ≤ 4000
theorem move_order (p q : GMove) (hp : MDay p) (hq : MDay q) : decide (0 ≤ tumbref2_moveOrder p q) = decide (0 ≤ cmp_Or_int [strings_Compare p.Who q.Who, cmp_Compare_int p.Day q.Day]) := by
  unfold MDay at hp hq
  unfold tumbref2_moveOrder tumbref2_sign
  rw [orI, cmpInt]
  by_cases h : strings_Compare p.Who q.Who = 0
  · rw [h, W_in (by omega) (by omega)]
    by_cases h1 : p.Day < q.Day
    · simp [h1, show p.Day - q.Day < 0 by omega]
    · by_cases h2 : q.Day < p.Day
      · simp [h1, h2, show ¬ p.Day - q.Day < 0 by omega, show 0 < p.Day - q.Day by omega]
      · simp [h1, h2, show ¬ p.Day - q.Day < 0 by omega, show ¬ 0 < p.Day - q.Day by omega]
  · simp [h]
theorem order_le (p q : GMove) (h : ¬ 0 ≤ cmp_Or_int [strings_Compare p.Who q.Who, cmp_Compare_int p.Day q.Day]) : leB p.Who q.Who := by
  rw [orI] at h
  by_cases h0 : strings_Compare p.Who q.Who = 0
  · exact .inr (cB_zero h0)
  · rw [if_pos h0] at h
    exact .inl (by unfold cB; unfold strings_Compare at h; omega)
/-- Moves in order of who moves. -/
def MSorted (l : List GMove) : Prop := ∀ dn p q ys, l = dn ++ p :: q :: ys → leB p.Who q.Who
theorem moves_loop (l : List GMove) (hl : l.length ≤ 1000) : ∀ (ys dn : List GMove), l = dn ++ ys → (∀ x ∈ dn, MDay x) → (∀ d p q r, dn = d ++ p :: q :: r → leB p.Who q.Who) →
    ∃ e, swimmer_CheckMoves_l1 l (some 0) ys dn.length = some e ∧ tumbref2_MovesFault_l1 l (some 0) ys dn.length = some e ∧ (e = 0 → MSorted l) := by
  intro ys
  induction ys with
  | nil => intro dn h1 h2 h3; exact ⟨0, rfl, rfl, fun _ d p q r h => h3 d p q r (by rw [← h, h1]; simp)⟩
  | cons y ys ih =>
    intro dn h1 h2 h3
    rw [swimmer_CheckMoves_l1, tumbref2_MovesFault_l1]
    obtain ⟨b, e1, e2⟩ := isKey_eq y.Who
    obtain ⟨c, e3, e4⟩ := isKey_eq y.Club
    have hd : swimmer_isDay y.Day = tumbref2_Day y.Day := rfl
    have hdl : dn.length ≤ 1000 := by rw [h1] at hl; simp at hl; omega
    have hrest : ∀ (_ : tumbref2_Day y.Day = true) (_ : ∀ d p, dn = d ++ [p] → leB p.Who y.Who), ∃ e, swimmer_CheckMoves_l1 l (some 0) ys (dn.length + 1) = some e ∧ tumbref2_MovesFault_l1 l (some 0) ys (dn.length + 1) = some e ∧ (e = 0 → MSorted l) := by
      intro hday hle
      have := ih (dn ++ [y]) (by rw [h1]; simp) (fun x hx => by
        rcases List.mem_append.1 hx with h | h
        · exact h2 x h
        · rw [List.mem_singleton] at h; subst h
          unfold tumbref2_Day tumbref2_in at hday; simp at hday
          exact hday) (fun d p q r h => by
        rcases List.eq_nil_or_concat r with rfl | ⟨r', z, rfl⟩
        · have h' : dn ++ [y] = (d ++ [p]) ++ [q] := by rw [h]; simp
          have h4 := List.append_inj' h' rfl
          have hq : y = q := by simpa using h4.2
          subst hq
          exact hle d p h4.1
        · have h' : dn ++ [y] = (d ++ p :: q :: r') ++ [z] := by rw [h]; simp
          have h4 := List.append_inj' h' rfl
          exact h3 d p q r' h4.1)
      rw [List.length_append, List.length_singleton] at this
      exact this
    simp only [join_eq, e1, e2, e3, e4, Option.bind_some, hd]
    rcases List.eq_nil_or_concat dn with rfl | ⟨d, p, rfl⟩
    · simp only [List.length_nil, Int.natCast_zero, decide_true, Bool.true_or, if_true, Int.lt_irrefl, decide_false, Bool.false_eq_true, if_false, Bool.not_true, Bool.false_and, Bool.true_and]
      cases hdd : tumbref2_Day y.Day with
      | false =>
        by_cases hc0 : y.Club = k_empty <;> cases b <;> cases c <;> simp only [hc0, Bool.not_true, Bool.not_false, Bool.true_or, Bool.false_or, Bool.and_true, Bool.true_and, Bool.false_and, Bool.and_false, Bool.or_true, Bool.or_false, decide_true, decide_false, if_true, if_false, Bool.false_eq_true] <;>
          exact ⟨_, rfl, rfl, fun h => by cases h⟩
      | true =>
        have hr := hrest hdd (fun d p h => by simp at h)
        by_cases hc0 : y.Club = k_empty <;> cases b <;> cases c <;> simp only [hc0, Bool.not_true, Bool.not_false, Bool.true_or, Bool.false_or, Bool.and_true, Bool.true_and, Bool.false_and, Bool.and_false, Bool.or_true, Bool.or_false, decide_true, decide_false, if_true, if_false, Bool.false_eq_true] <;>
          first | exact ⟨_, rfl, rfl, fun h => by cases h⟩ | exact hr
    · simp only [List.concat_eq_append] at *
      have hlen : ((d ++ [p]).length : Int) = (d.length : Int) + 1 := by simp
      have hw : W (((d ++ [p]).length : Int) - 1) = (d.length : Int) := by rw [hlen, W_in (by omega) (by simp at hdl; omega)]; omega
      have hnp : nth l (d.length : Int) = p := by unfold nth; rw [h1]; simp
      have hin : inB (d.length : Int) l.length = true := by rw [inB_iff, h1]; simp; omega
      have hz : decide (((d ++ [p]).length : Int) = 0) = false := by rw [hlen]; simp; omega
      have hpos : decide (0 < ((d ++ [p]).length : Int)) = true := by rw [hlen]; simp
      simp only [hz, hpos, hw, chk_pos hin, hnp, Bool.false_or, Bool.false_eq_true, if_false, if_true, Bool.not_not, Bool.true_and]
      have hpd := h2 p (by simp)
      cases hdd : tumbref2_Day y.Day with
      | false =>
        by_cases hc0 : y.Club = k_empty <;> cases b <;> cases c <;> simp only [hc0, Bool.not_true, Bool.not_false, Bool.true_or, Bool.false_or, Bool.and_true, Bool.true_and, Bool.false_and, Bool.and_false, Bool.or_true, Bool.or_false, decide_true, decide_false, if_true, if_false, Bool.false_eq_true] <;>
          exact ⟨_, rfl, rfl, fun h => by cases h⟩
      | true =>
        have hyd : MDay y := by unfold tumbref2_Day tumbref2_in at hdd; simp at hdd; exact hdd
        rw [move_order p y hpd hyd]
        by_cases ho : 0 ≤ cmp_Or_int [strings_Compare p.Who y.Who, cmp_Compare_int p.Day y.Day]
        · by_cases hc0 : y.Club = k_empty <;> cases b <;> cases c <;> simp only [hc0, ho, Bool.not_true, Bool.not_false, Bool.true_or, Bool.false_or, Bool.and_true, Bool.true_and, Bool.false_and, Bool.and_false, Bool.or_true, Bool.or_false, decide_true, decide_false, if_true, if_false, Bool.false_eq_true] <;>
            exact ⟨_, rfl, rfl, fun h => by cases h⟩
        · have hr := hrest hdd (fun d' p' h => by
            have h4 := List.append_inj' h rfl
            have hq : p = p' := by simpa using h4.2
            subst hq
            exact order_le p y ho)
          have hsw : decide (y.Club = p.Club) = decide (p.Club = y.Club) := by rw [decide_eq_decide]; exact ⟨Eq.symm, Eq.symm⟩
          have ho' : decide (0 ≤ cmp_Or_int [strings_Compare p.Who y.Who, cmp_Compare_int p.Day y.Day]) = false := by simpa using ho
          simp only [ho', hsw]
          generalize decide (p.Who = y.Who) = b1
          generalize decide (p.Club = y.Club) = b2
          generalize decide (y.Club = k_empty) = b0
          cases b1 <;> cases b2 <;> cases b0 <;> cases b <;> cases c <;> simp only [Bool.not_true, Bool.not_false, Bool.true_or, Bool.false_or, Bool.and_true, Bool.true_and, Bool.false_and, Bool.and_false, Bool.or_true, Bool.or_false, if_true, if_false, Bool.false_eq_true] <;>
            first | exact ⟨_, rfl, rfl, fun h => by cases h⟩ | exact hr
theorem moves_eq (l : List GMove) : ∃ e, swimmer_CheckMoves l = some e ∧ tumbref2_MovesFault l = some e ∧ (e = 0 → l.length ≤ 1000 ∧ MSorted l) := by
  unfold swimmer_CheckMoves tumbref2_MovesFault
  by_cases h : 1000 < (l.length : Int)
  · rw [if_pos (decide_eq_true h), if_pos (decide_eq_true h)]
    exact ⟨2, rfl, rfl, fun h => by cases h⟩
  · rw [if_neg (by simpa using h), if_neg (by simpa using h)]
    simp only [join_eq]
    obtain ⟨e, g1, g2, g3⟩ := moves_loop l (by omega) l [] rfl (fun _ h => by cases h) (fun d p q r h => by simp at h)
    exact ⟨e, g1, g2, fun h' => ⟨by omega, g3 h'⟩⟩
theorem club_loop (who : ByteArray) (day : Int) (j : ByteArray → ByteArray) : ∀ (l : List GMove) (i : Nat) (x : ByteArray), swimmer_clubAt_l1 who day j l i x = tumbref2_ClubFor_l1 who day j l i x
  | [], _, _ => rfl
  | y :: l, i, x => by
    rw [swimmer_clubAt_l1, tumbref2_ClubFor_l1]
    simp only [join_eq, club_loop who day j l (i + 1)]
theorem club_eq (l : List GMove) (who : ByteArray) (day : Int) : swimmer_clubAt l who day = tumbref2_ClubFor l who day := by
  unfold swimmer_clubAt tumbref2_ClubFor
  simp only [join_eq, club_loop]
end Go.Proofs.YtmngaaffadcccaaGreatDoor
