/- The program's checks of kinds and steps are the reference's. No program stands here but its twins. -/
import Derived.Test.YtamfhhmfioghgaaGreatDoorPRefX
import Derived.Test.YtamfhhmfioghgaaGreatDoorPBytes
import Derived.Test.YtamfhhmfioghgaaGreatDoorPSwim
import Derived.Test.YtamfhhmfioghgaaGreatDoorPList
namespace Go.Proofs.YtamfhhmfioghgaaGreatDoor
open Go
theorem cmpI' (x y : Int) : cmp_Compare_int x y = if x < y then -1 else if y < x then 1 else 0 := by
  unfold cmp_Compare_int cmp_isNaN_int
  simp
theorem orI3 (a b c : Int) : cmp_Or_int [a, b, c] = if a ≠ 0 then a else if b ≠ 0 then b else c := by
  unfold cmp_Or_int
  simp only [joinR, cmp_Or_int_l1]
  by_cases h1 : a = 0
  · by_cases h2 : b = 0
    · by_cases h3 : c = 0 <;> simp [h1, h2, h3]
    · simp [h1, h2]
  · simp [h1]
def StG (x : GStep) : Prop := (0 ≤ x.At ∧ x.At < 345686400000) ∧ (1 ≤ x.Kind ∧ x.Kind ≤ 3) ∧ (x.Kind = 1 → 1 ≤ x.Time ∧ x.Time ≤ 360000)
theorem compare_is (p q : GStep) : record_compare p q = if p.At < q.At then -1 else if q.At < p.At then 1 else if cB p.Id q.Id ≠ 0 then cB p.Id q.Id else if p.Kind < q.Kind then -1 else if q.Kind < p.Kind then 1 else 0 := by
  unfold record_compare
  rw [orI3, cmpI', cmpI']
  have hc : strings_Compare p.Id q.Id = cB p.Id q.Id := rfl
  rw [hc]
  by_cases h1 : p.At < q.At
  · simp [h1]
  · by_cases h2 : q.At < p.At
    · simp [h1, h2]
    · simp [h1, h2]
theorem order_is (p q : GStep) (hp : StG p) (hq : StG q) : tumbref2_StepOrder p q = record_compare p q := by
  rw [compare_is]
  unfold StG at hp hq
  unfold tumbref2_StepOrder tumbref2_sign
  have hc : strings_Compare p.Id q.Id = cB p.Id q.Id := rfl
  rw [hc, W_in (n := p.At - q.At) (by omega) (by omega), W_in (n := p.Kind - q.Kind) (by omega) (by omega)]
  by_cases h1 : p.At < q.At
  · have : ¬ p.At = q.At := by omega
    simp [h1, this, show p.At - q.At < 0 by omega]
  · by_cases h2 : q.At < p.At
    · have : ¬ p.At = q.At := by omega
      simp [h1, h2, this, show ¬ p.At - q.At < 0 by omega, show 0 < p.At - q.At by omega]
    · have h3 : p.At = q.At := by omega
      by_cases h4 : p.Id = q.Id
      · have h5 : cB p.Id q.Id = 0 := cB_eq.2 h4
        by_cases h6 : p.Kind < q.Kind
        · simp [h3, h4, h6, cB_refl, show p.Kind - q.Kind < 0 by omega]
        · by_cases h7 : q.Kind < p.Kind
          · simp [h3, h4, h6, h7, cB_refl, show ¬ p.Kind - q.Kind < 0 by omega, show 0 < p.Kind - q.Kind by omega]
          · simp [h3, h4, h6, h7, cB_refl, show ¬ p.Kind - q.Kind < 0 by omega, show ¬ 0 < p.Kind - q.Kind by omega]
      · have h5 : ¬ cB p.Id q.Id = 0 := fun h => h4 (cB_zero h)
        simp [h3, h4, h5]
theorem momentR (t : Int) : words_IsMoment t = tumbref2_Moment t := by
  unfold words_IsMoment tumbref2_Moment tumbref2_in
  congr 1
  rw [decide_eq_decide]
  omega
theorem withinR : words_Within = tumbref2_in := rfl
theorem timeR (t : Int) : timing_IsTime t = tumbref2_in t 1 360000 := rfl
theorem step_both (x : GStep) : ∃ e, record_checkStep x = some e ∧ tumbref2_StepFault x = some e ∧ (e = 0 → StG x) := by
  obtain ⟨b1, k1, k1'⟩ := isKey_eq x.Id
  obtain ⟨b2, k2, k2'⟩ := isKey_eq x.Who
  obtain ⟨b3, k3, k3'⟩ := isKey_eq x.Race
  obtain ⟨b4, k4, k4'⟩ := isKey_eq x.Club
  unfold record_checkStep tumbref2_StepFault
  rw [momentR, withinR, timeR, k1, k1', k2, k2', k3, k3', k4, k4']
  simp only [joinR, Option.bind_some]
  cases hm : tumbref2_Moment x.At with
  | false => exact ⟨1, rfl, rfl, fun h => by cases h⟩
  | true =>
    simp only [Bool.not_true, Bool.false_eq_true, if_false]
    cases hk : tumbref2_in x.Kind 1 3 with
    | false => exact ⟨4, rfl, rfl, fun h => by cases h⟩
    | true =>
      simp only [Bool.not_true, Bool.false_eq_true, if_false]
      have hat : 0 ≤ x.At ∧ x.At < 345686400000 := by
        unfold tumbref2_Moment tumbref2_in at hm
        simp at hm
        omega
      have hkk : 1 ≤ x.Kind ∧ x.Kind ≤ 3 := by
        unfold tumbref2_in at hk
        simpa using hk
      cases b1 with
      | false => exact ⟨5, rfl, rfl, fun h => by cases h⟩
      | true =>
        simp only [Bool.not_true, Bool.false_eq_true, if_false]
        by_cases h1 : x.Kind = 1
        · simp only [h1, decide_true, Bool.not_true, Bool.false_eq_true, if_false]
          by_cases hcl : x.Club = k_empty
          · cases b2 <;> cases b3 <;> simp only [hcl, decide_true, Bool.not_true, Bool.not_false, Bool.false_and, Bool.true_or, Bool.or_true, Bool.or_false, Bool.false_or, if_true, Bool.false_eq_true, if_false]
            · exact ⟨5, rfl, rfl, fun h => by cases h⟩
            · exact ⟨5, rfl, rfl, fun h => by cases h⟩
            · exact ⟨5, rfl, rfl, fun h => by cases h⟩
            · split
              · exact ⟨1, rfl, rfl, fun h => by cases h⟩
              · rename_i hh
                refine ⟨0, rfl, rfl, fun _ => ⟨hat, hkk, fun _ => ?_⟩⟩
                simp [tumbref2_in] at hh
                omega
          · cases b2 <;> cases b3 <;> cases b4 <;> simp only [hcl, decide_false, Bool.not_true, Bool.not_false, Bool.true_and, Bool.true_or, Bool.or_true, Bool.or_false, Bool.false_or, if_true, Bool.false_eq_true, if_false]
            case true.true.true =>
              split
              · exact ⟨1, rfl, rfl, fun h => by cases h⟩
              · rename_i hh
                refine ⟨0, rfl, rfl, fun _ => ⟨hat, hkk, fun _ => ?_⟩⟩
                simp [tumbref2_in] at hh
                omega
            all_goals exact ⟨5, rfl, rfl, fun h => by cases h⟩
        · simp only [h1, decide_false, Bool.not_false, if_true]
          split
          · exact ⟨3, rfl, rfl, fun h => by cases h⟩
          · exact ⟨0, rfl, rfl, fun _ => ⟨hat, hkk, fun h => absurd h h1⟩⟩
def StAdj (l : List GStep) : Prop := ∀ dn p q ys, l = dn ++ p :: q :: ys → record_compare p q < 0
theorem adj_snoc {l : List GStep} {y : GStep} (h : StAdj l) (hy : ∀ d p, l = d ++ [p] → record_compare p y < 0) : StAdj (l ++ [y]) := by
  intro d p q r e
  rcases List.eq_nil_or_concat r with rfl | ⟨r', z, rfl⟩
  · have h' : l ++ [y] = (d ++ [p]) ++ [q] := by rw [e]; simp
    have h4 := List.append_inj' h' rfl
    have hq : y = q := by simpa using h4.2
    subst hq
    exact hy d p h4.1
  · have h' : l ++ [y] = (d ++ p :: q :: r') ++ [z] := by rw [e]; simp
    exact h d p q r' (List.append_inj' h' rfl).1
theorem steps_loop (l : List GStep) (hl : l.length ≤ 1000) : ∀ (ys dn : List GStep), l = dn ++ ys → (∀ x ∈ dn, StG x) → StAdj dn →
    ∃ e, record_CheckSteps_l1 l (some 0) ys dn.length = some e ∧ tumbref2_StepsFault_l1 l (some 0) ys dn.length = some e ∧ (e = 0 → (∀ x ∈ l, StG x) ∧ StAdj l)
  | [], dn, h, h1, h2 => ⟨0, rfl, rfl, fun _ => by rw [List.append_nil] at h; subst h; exact ⟨h1, h2⟩⟩
  | y :: ys, dn, h, h1, h2 => by
    obtain ⟨e, e1, e2, e3⟩ := step_both y
    have hlen : l.length = dn.length + (ys.length + 1) := by rw [h]; simp
    rw [record_CheckSteps_l1, tumbref2_StepsFault_l1, e1, e2]
    simp only [Option.bind_some, joinR]
    by_cases he : e = 0
    · simp only [he, decide_true, Bool.not_true, Bool.false_eq_true, if_false]
      have hy := e3 he
      have rest : (∀ d p, dn = d ++ [p] → record_compare p y < 0) → ∃ e, record_CheckSteps_l1 l (some 0) ys (dn.length + 1) = some e ∧ tumbref2_StepsFault_l1 l (some 0) ys (dn.length + 1) = some e ∧ (e = 0 → (∀ x ∈ l, StG x) ∧ StAdj l) := by
        intro hadj
        have := steps_loop l hl ys (dn ++ [y]) (by rw [h]; simp) (fun x hx => by
          rcases List.mem_append.1 hx with h' | h'
          · exact h1 x h'
          · rw [List.mem_singleton] at h'; subst h'; exact hy) (adj_snoc h2 hadj)
        rwa [List.length_append, List.length_singleton] at this
      rcases List.eq_nil_or_concat dn with hd | ⟨d, p, hd⟩
      · subst hd
        simp only [List.length_nil, Int.natCast_zero, Int.lt_irrefl, decide_false, Bool.false_eq_true, if_false] at rest ⊢
        exact rest fun d p h' => by simp at h'
      · rw [List.concat_eq_append] at hd
        have hdl : dn.length = d.length + 1 := by rw [hd]; simp
        have hn : nth l (W ((dn.length : Int) - 1)) = p := by
          rw [W_in (by omega) (by omega), h, hd]
          have : d ++ [p] ++ y :: ys = d ++ p :: (y :: ys) := by simp
          rw [this]
          exact nth_mid _ _ _ (by simp)
        have hpos : decide (0 < (dn.length : Int)) = true := decide_eq_true (by omega)
        have hp : StG p := h1 p (by rw [hd]; simp)
        simp only [hpos, if_true]
        rw [chkT (inB_iff.2 (by rw [W_in (by omega) (by omega)]; omega)), chkT (inB_iff.2 (by rw [W_in (by omega) (by omega)]; omega)), hn, order_is p y hp hy]
        by_cases hc : 0 ≤ record_compare p y
        · simp only [hc, decide_true, if_true]
          exact ⟨7, rfl, rfl, fun h => by cases h⟩
        · simp only [hc, decide_false, Bool.false_eq_true, if_false]
          refine rest fun d' p' h' => ?_
          rw [hd] at h'
          have h4 := List.append_inj' h' rfl
          have : p = p' := by simpa using h4.2
          subst this
          omega
    · simp only [he, decide_false, Bool.not_false, if_true]
      exact ⟨e, rfl, rfl, fun h => absurd h he⟩
theorem steps_both (l : List GStep) : ∃ e, record_CheckSteps l = some e ∧ tumbref2_StepsFault l = some e ∧ (e = 0 → l.length ≤ 1000 ∧ (∀ x ∈ l, StG x) ∧ StAdj l) := by
  unfold record_CheckSteps tumbref2_StepsFault
  by_cases h : 1000 < (l.length : Int)
  · simp only [h, decide_true, if_true]
    exact ⟨2, rfl, rfl, fun h => by cases h⟩
  · simp only [h, decide_false, Bool.false_eq_true, if_false, joinR]
    obtain ⟨e, e1, e2, e3⟩ := steps_loop l (by omega) l [] rfl (fun x hx => by cases hx) (fun d p q r h => by simp at h)
    exact ⟨e, e1, e2, fun he => ⟨by omega, e3 he⟩⟩
end Go.Proofs.YtamfhhmfioghgaaGreatDoor
