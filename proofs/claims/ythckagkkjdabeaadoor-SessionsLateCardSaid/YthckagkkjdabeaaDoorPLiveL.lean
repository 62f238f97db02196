/- Live, Behind and Now, as the law asks. No program stands here but its twins. -/
import Derived.Test.YthckagkkjdabeaaDoorPLive
namespace Go.Proofs.YthckagkkjdabeaaDoor
open Go
theorem liveFault_l : ∀ (z : List GSlot) (i : Nat), tumbref2_LiveFault_l1 (some 0) z i = some (if z.any (fun s => decide (345686400000 < s.Time.To)) then 1 else 0)
  | [], i => rfl
  | s :: z, i => by
    rw [tumbref2_LiveFault_l1, liveFault_l z (i + 1), List.any_cons]
    by_cases h : 345686400000 < s.Time.To <;> simp [h]
theorem now_l (t : Int) : ∀ (z : List GSlot) (i : Nat), ∃ s b, session_Now_l1 t (some ((GSlot.mk k_empty 0 (GWindow.mk 0 0)), false, 0)) z i = some (s, b, 0) ∧ tumbref2_NowOf_l1 t (some ((GSlot.mk k_empty 0 (GWindow.mk 0 0)), false)) z i = some (s, b)
  | [], i => ⟨_, _, rfl, rfl⟩
  | s :: z, i => by
    rw [session_Now_l1, tumbref2_NowOf_l1]
    by_cases h : t < s.Time.To
    · rw [if_pos (decide_eq_true h), if_pos (decide_eq_true h)]; exact ⟨_, _, rfl, rfl⟩
    · rw [if_neg (by simpa using h), if_neg (by simpa using h)]; exact now_l t z (i + 1)
theorem behind_l (items : List GItem) (t E : Int) (hE : tumbref2_EndOf items t = some E) : ∀ (z : List GSlot) (i : Nat) (x : Int), tumbref2_BehindOf_l1 items t (fun x => some x) z i x = some (match z.getLast? with | some s => W (s.Time.To - E) | none => x)
  | [], i, x => rfl
  | s :: z, i, x => by
    rw [tumbref2_BehindOf_l1, hE]
    simp only [Option.bind_some]
    rw [behind_l items t E hE z (i + 1), List.getLast?_cons]
    cases z.getLast? <;> rfl
/-- The live timetable, by one fault. -/
theorem live_law (items : List GItem) (t : Int) (l : List GHeld) : ∃ f z r, session_checkLive items t l = some (z, r, f) ∧ tumbref2_LiveFault items t l = some f ∧
    (f = 0 → tumbref2_LiveOf items t l = some z ∧ z.length = r.length ∧ z.length < 1073741824 ∧ session_end r t = some (lastTo r t) ∧ tumbref2_EndOf items t = some (lastTo r t)) ∧ (f ≠ 0 → z = [] ∧ r = []) := by
  unfold session_checkLive tumbref2_LiveFault
  obtain ⟨e, h1, h2, h3⟩ := held_eq items l
  rw [h1, h2]
  simp only [Option.bind_some]
  by_cases he : e = 0
  · subst he
    obtain ⟨hi, hg, hl, hv⟩ := h3 rfl
    simp only [decide_true, Bool.not_true, Bool.false_eq_true, if_false, moment_eq]
    cases hm : tumbref2_Moment t with
    | false => exact ⟨1, [], [], by simp, by simp, (fun h => by cases h), fun _ => ⟨rfl, rfl⟩⟩
    | true =>
      have ht : 0 ≤ t ∧ t ≤ 345686400000 := by
        unfold tumbref2_Moment tumbref2_in at hm
        simp at hm
        omega
      have hlen := tt_len items t hg
      obtain ⟨n1, n2, g1, g2, g3⟩ := maps_ok (fun x1 x2 => session_live_l2 x1 x2 (tt items t) (fun x => some (x, tt items t)) (tt items t) 0 []) l 0 [] []
      obtain ⟨z, z1, z2, z3, z4⟩ := live_loop l (fun p hp => by obtain ⟨k, y, h⟩ := hv p hp; exact ⟨h.a1, h.a2⟩) n1 n2 (fun item h => by rw [g2]; simp [mgetD, mget, mfind]) (fun item h => by rw [g3]; simp [mgetD, mget, mfind])
        (tt items t) (by omega) t ht.1 ht.2 (tt items t) [] [] rfl rfl (.inl ⟨rfl, rfl, ch_tt items t t hg (Int.le_refl _) (by omega)⟩)
      have hlive : session_live items t l = some (z, tt items t) := by
        unfold session_live
        rw [timetable_eq items t hg hi ht.1 ht.2]
        simp only [Option.bind_some, join_eq]
        exact g1.trans z1
      have hof : tumbref2_LiveOf items t l = some z := by
        unfold tumbref2_LiveOf slices_Clone_Slot
        rw [slots_eq items t hg hi ht.1 ht.2]
        simp only [Option.bind_some, join_eq]
        rw [chk_pos (by simp; omega)]
        exact z2
      rw [hlive, hof]
      simp only [Bool.not_true, Bool.false_eq_true, if_false, Option.bind_some, join_eq]
      rw [end_eq z t (by omega), liveFault_l]
      simp only [Option.bind_some]
      have hany : (z.any fun s => decide (345686400000 < s.Time.To)) = decide (345686400000 < lastTo z t) := by
        rw [Bool.eq_iff_iff, List.any_eq_true, decide_eq_true_eq]
        constructor
        · rintro ⟨s, hs, hh⟩
          have := z4 s hs; simp at hh; omega
        · intro h
          unfold lastTo at h
          cases hz : z.getLast? with
          | none => rw [hz] at h; simp only at h; omega
          | some s => rw [hz] at h; exact ⟨s, List.mem_of_getLast? hz, by simpa using h⟩
      rw [hany]
      by_cases h : 345686400000 < lastTo z t
      · exact ⟨1, [], [], by simp [h], by simp [h], (fun h => by cases h), fun _ => ⟨rfl, rfl⟩⟩
      · exact ⟨0, z, tt items t, by simp [h], by simp [h], fun _ => ⟨rfl, z3, by omega, end_eq _ _ (by omega), endOf_eq items t hg hi ht.1 ht.2⟩, fun h => (h rfl).elim⟩
  · rw [if_pos (by simpa using he), if_pos (by simpa using he)]
    exact ⟨e, [], [], rfl, rfl, fun h => (he h).elim, fun _ => ⟨rfl, rfl⟩⟩
theorem errs2 (a b : Int) : tumblaw2_errs [a, b] = if a ≠ 0 then a else b := by
  unfold tumblaw2_errs
  simp only [join_eq, tumblaw2_errs_l1]
  by_cases h1 : a = 0
  · by_cases h2 : b = 0
    · simp [h1, h2]
    · simp [h1, h2]
  · simp [h1]
end Go.Proofs.YthckagkkjdabeaaDoor
