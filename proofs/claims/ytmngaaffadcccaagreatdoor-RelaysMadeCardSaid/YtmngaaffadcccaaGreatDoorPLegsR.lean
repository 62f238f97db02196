/- Legs: the program's check is the reference's. Conditions: the twins of package swimmer and of the reference. -/
import Derived.Test.YtmngaaffadcccaaGreatDoorPSwim
import Derived.Test.YtmngaaffadcccaaGreatDoorPLegs
namespace Go.Proofs.YtmngaaffadcccaaGreatDoor
open Go
theorem legs_any (ts : List Int) : slices_ContainsFunc_int_tumbref2_LegsFault_c1 ts = ts.any fun t => !(words_Within t 0 360000) :=
  any_l (fun t => !(words_Within t 0 360000)) (slices_IndexFunc_int_tumbref2_LegsFault_c1_l1 (-1)) (fun _ => rfl) (fun _ _ _ => rfl) ts
theorem legs_loop (l : List GLeg) (hl : l.length ≤ 12) : ∀ (ys dn : List GLeg) (last : ByteArray), l = dn ++ ys → (dn = [] → last = k_empty) → (∀ d x, dn = d ++ [x] → last = x.Who) → dn.Pairwise (fun x y => cB x.Who y.Who < 0) →
    ∃ e, swimmer_CheckLegs_l1 l (some 0) ys dn.length = some e ∧ tumbref2_LegsFault_l1 (some 0) ys dn.length last = some e ∧ (e = 0 → l.Pairwise (fun x y => cB x.Who y.Who < 0) ∧ ∀ x ∈ ys, x.Times.length = 4 ∧ ∀ t ∈ x.Times, 0 ≤ t ∧ t ≤ 360000) := by
  intro ys
  induction ys with
  | nil => intro dn last h1 _ _ h4; exact ⟨0, rfl, rfl, fun _ => ⟨by rw [h1]; simpa using h4, fun x hx => by cases hx⟩⟩
  | cons y ys ih =>
    intro dn last h1 h2 h3 h4
    rw [swimmer_CheckLegs_l1, tumbref2_LegsFault_l1]
    obtain ⟨b, e1, e2⟩ := isKey_eq y.Who
    rw [e1, e2]
    simp only [Option.bind_some, join_eq]
    cases b with
    | false => exact ⟨5, rfl, rfl, fun h => by cases h⟩
    | true =>
      have hk := key_size e2
      simp only [Bool.not_true, Bool.false_eq_true, if_false]
      have hrest : dn = [] ∨ (∃ d x, dn = d ++ [x] ∧ (Sless y.Who x.Who || decide (y.Who = x.Who)) = false) → ∃ e, (if (!decide ((y.Times.length : Int) = 4)) = true then some 3 else swimmer_CheckLegs_l2 (swimmer_CheckLegs_l1 l (some 0) ys (dn.length + 1)) y.Times 0) = some e ∧
          (if (!decide ((y.Times.length : Int) = 4)) = true then some 3 else if slices_ContainsFunc_int_tumbref2_LegsFault_c1 y.Times = true then some 1 else tumbref2_LegsFault_l1 (some 0) ys (dn.length + 1) y.Who) = some e ∧ (e = 0 → l.Pairwise (fun x y => cB x.Who y.Who < 0) ∧ ∀ x ∈ y :: ys, x.Times.length = 4 ∧ ∀ t ∈ x.Times, 0 ≤ t ∧ t ≤ 360000) := by
        intro hord
        by_cases hf : (y.Times.length : Int) = 4
        · rw [if_neg (by simp [hf]), if_neg (by simp [hf]), legs_l2, legs_any]
          cases ha : y.Times.any (fun t => !(words_Within t 0 360000)) with
          | true => rw [if_pos rfl, if_pos rfl]; exact ⟨1, rfl, rfl, fun h => by cases h⟩
          | false =>
            rw [if_neg (by simp), if_neg (by simp)]
            have hp : (dn ++ [y]).Pairwise (fun x y => cB x.Who y.Who < 0) := by
              rw [List.pairwise_append]
              refine ⟨h4, by simp, fun x hx z hz => ?_⟩
              obtain rfl := List.mem_singleton.1 hz
              rcases hord with rfl | ⟨d, p, rfl, hs⟩
              · cases hx
              · rw [sless_cb] at hs
                simp only [Bool.or_eq_false_iff, decide_eq_false_iff_not] at hs
                have hlt : cB p.Who z.Who < 0 := by
                  have := cB_rng z.Who p.Who
                  have h0 : cB z.Who p.Who ≠ 0 := fun h => hs.2 (cB_zero h)
                  rw [cB_flip]; omega
                rcases List.mem_append.1 hx with hx | hx
                · rw [List.pairwise_append] at h4
                  exact cB_trans (h4.2.2 x hx p (by simp)) hlt
                · obtain rfl := List.mem_singleton.1 hx; exact hlt
            obtain ⟨e, g1, g2, g3⟩ := ih (dn ++ [y]) y.Who (by rw [h1]; simp) (fun h => by simp at h) (fun d x h => by have := List.append_inj' h rfl; simp at this; rw [this.2]) hp
            rw [List.length_append, List.length_singleton] at g1 g2
            refine ⟨e, g1, g2, fun h => ⟨(g3 h).1, fun x hx => ?_⟩⟩
            rcases List.mem_cons.1 hx with rfl | hx
            · refine ⟨by omega, fun t ht => ?_⟩
              have := List.any_eq_false.1 ha t ht
              unfold words_Within at this
              simp at this
              omega
            · exact (g3 h).2 x hx
        · rw [if_pos (by simp [hf]), if_pos (by simp [hf])]
          exact ⟨3, rfl, rfl, fun h => by cases h⟩
      rcases List.eq_nil_or_concat dn with rfl | ⟨d, x, rfl⟩
      · rw [h2 rfl, sless_empty]
        simp only [List.length_nil, Int.natCast_zero, Int.lt_irrefl, decide_false, Bool.false_eq_true, if_false, Bool.false_and, Bool.false_or, decide_eq_true_eq, not_empty hk]
        simpa using hrest (.inl rfl)
      · simp only [List.concat_eq_append] at *
        have hx : last = x.Who := h3 d x rfl
        have hlen : ((d ++ [x]).length : Int) = (d.length : Int) + 1 := by simp
        have hdl : d.length ≤ 12 := by rw [h1] at hl; simp at hl; omega
        have hn : nth l (W (((d ++ [x]).length : Int) - 1)) = x := by
          rw [hlen, show (d.length : Int) + 1 - 1 = (d.length : Int) by omega, W_in (by omega) (by omega)]
          unfold nth
          rw [h1]; simp
        have hin : inB (W (((d ++ [x]).length : Int) - 1)) l.length = true := by
          rw [hlen, show (d.length : Int) + 1 - 1 = (d.length : Int) by omega, W_in (by omega) (by omega)]
          rw [inB_iff, h1]; simp; omega
        have hpos : decide (0 < ((d ++ [x]).length : Int)) = true := by rw [hlen]; simp
        rw [if_pos hpos, chk_pos hin, hn, hpos, hx, Bool.true_and]
        cases hc : (Sless y.Who x.Who || decide (y.Who = x.Who)) with
        | true => simp only [if_true]; exact ⟨7, rfl, rfl, fun h => by cases h⟩
        | false => simpa using hrest (.inr ⟨d, x, rfl, hc⟩)
theorem legs_eq (l : List GLeg) : ∃ e, swimmer_CheckLegs l = some e ∧ tumbref2_LegsFault l = some e ∧ (e = 0 → LGood l) := by
  unfold swimmer_CheckLegs tumbref2_LegsFault
  by_cases h : 12 < (l.length : Int)
  · rw [if_pos (decide_eq_true h), if_pos (decide_eq_true h)]
    exact ⟨2, rfl, rfl, fun h => by cases h⟩
  · rw [if_neg (by simpa using h), if_neg (by simpa using h)]
    simp only [join_eq]
    obtain ⟨e, g1, g2, g3⟩ := legs_loop l (by omega) l [] k_empty rfl (fun _ => rfl) (fun d x h => by simp at h) (by simp)
    exact ⟨e, g1, g2, fun h => ⟨by omega, fun x hx => ((g3 h).2 x hx).1, fun x hx => ((g3 h).2 x hx).2, (g3 h).1⟩⟩
end Go.Proofs.YtmngaaffadcccaaGreatDoor
