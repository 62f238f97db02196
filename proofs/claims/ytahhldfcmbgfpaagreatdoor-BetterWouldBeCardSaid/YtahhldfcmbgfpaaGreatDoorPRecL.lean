/- What lasts of records: who holds them, for how long, what would be one: the program's answers are the reference's. No program stands here but its twins. -/
import Derived.Test.YtahhldfcmbgfpaaGreatDoorPRecQ
namespace Go.Proofs.YtahhldfcmbgfpaaGreatDoor
open Go
/-- Whether something was swum. -/
def hasS (u : List GStep) (id : ByteArray) : Bool := (firsts u).any fun s => decide (s.Id = id)
def idF (u : List GStep) (id : ByteArray) : Int := if hasS u id then 0 else 8
theorem has_is {u : List GStep} {sw : List Grecord_swum} (h : Fol u sw) (id : ByteArray) : record_has sw id = hasS u id := by
  unfold hasS
  rw [← h.steps, List.any_map]
  exact any_l (fun y : Grecord_swum => decide (y.s_.Id = id)) (slices_IndexFunc_swum_record_has_c1_l1 id (-1)) (fun _ => rfl) (fun _ _ _ => rfl) sw
theorem heldAny (v : List GBest) (id : ByteArray) : slices_ContainsFunc_Best_record_Held_c1 v id = v.any fun b => decide (b.Id = id) :=
  any_l (fun b : GBest => decide (b.Id = id)) (slices_IndexFunc_Best_record_Held_c1_l1 id (-1)) (fun _ => rfl) (fun _ _ _ => rfl) v
/-- The kinds of which something is a record. -/
def heldS (k : List GKind) (u : List GStep) (id : ByteArray) : List ByteArray := (k.filter fun x => (recS (valS x u)).any fun b => decide (b.Id = id)).map (·.Key)
/-- What both checks say. -/
def baseF (e f x : Int) : Int := if tumblaw2_errs [e, f] = 0 then x else tumblaw2_errs [e, f]
theorem base_cases (e f x : Int) : (e ≠ 0 ∧ baseF e f x = e) ∨ (e = 0 ∧ f ≠ 0 ∧ baseF e f x = f) ∨ (e = 0 ∧ f = 0 ∧ baseF e f x = x) := by
  unfold baseF
  simp only [errs_cons, errs_nil]
  by_cases h : e = 0
  · by_cases h2 : f = 0
    · exact .inr (.inr ⟨h, h2, by simp [h, h2]⟩)
    · exact .inr (.inl ⟨h, h2, by simp [h, h2]⟩)
  · exact .inl ⟨h, by simp [h]⟩
theorem Held_is (k : List GKind) (hk : k.length ≤ 1000) (l : List GStep) (id : ByteArray) (t : Int) {e f : Int} (he : record_CheckKinds k = some e) (hf : record_CheckSteps l = some f) :
    ∃ S, record_Held k l id t = some (S, baseF e f (tumblaw2_errs [tumblaw2_momentFault t, idF (upS l t) id])) ∧ (baseF e f (tumblaw2_errs [tumblaw2_momentFault t, idF (upS l t) id]) ≠ 0 → S = []) ∧
      (baseF e f (tumblaw2_errs [tumblaw2_momentFault t, idF (upS l t) id]) = 0 → S = heldS k (upS l t) id) := by
  obtain ⟨f', h1, _, h3⟩ := steps_both l
  have hff : f' = f := by rw [hf] at h1; exact (Option.some.inj h1).symm
  subst hff
  unfold record_Held
  rw [both_is k l he hf, momentR]
  simp only [Option.bind_some, joinR]
  rcases base_cases e f' (tumblaw2_errs [tumblaw2_momentFault t, idF (upS l t) id]) with ⟨g1, g2⟩ | ⟨g1, g2, g3⟩ | ⟨g1, g2, g3⟩
  · rw [g2]; exact ⟨[], by simp [g1], fun _ => rfl, fun h => absurd h g1⟩
  · rw [g3]; exact ⟨[], by simp [g1, g2], fun _ => rfl, fun h => absurd h g2⟩
  · rw [g3]
    subst g1 g2
    obtain ⟨hl, hg, ha⟩ := h3 rfl
    obtain ⟨sw, e1, e2⟩ := follow_is l hl hg ha t
    have hu := upS_len l t
    simp only [ne_eq, not_true_eq_false, if_false, decide_true, Bool.not_true, Bool.false_eq_true, errs_cons, errs_nil]
    unfold tumblaw2_momentFault tumblaw2_when idF
    cases hm : tumbref2_Moment t with
    | false => exact ⟨[], by simp, fun _ => rfl, fun h => by simp at h⟩
    | true =>
      rw [e1]
      simp only [Bool.not_true, Bool.false_eq_true, if_false, Option.bind_some]
      rw [has_is e2]
      cases hasS (upS l t) id with
      | false => exact ⟨[], by simp, fun _ => rfl, fun h => by simp at h⟩
      | true =>
        refine ⟨heldS k (upS l t) id, ?_, fun h => by simp at h, fun _ => rfl⟩
        simp only [Bool.not_true, Bool.false_eq_true, if_false]
        rw [app_0 (fun x : GKind => (recS (valS x (upS l t))).any fun b => decide (b.Id = id)) (·.Key) (fun x => some (x, (0 : Int))) (record_Held_l1 (sw, refs (upS l t)) id fun x => some (x, 0)) (fun _ _ => rfl) k (by omega) (fun y ys i x => by
          rw [record_Held_l1]
          simp only [joinR]
          rw [record_is y (by omega) e2]
          simp only [Option.bind_some]
          rw [heldAny])]
        simp [heldS]
/-- Whether a step would be a record of a kind. -/
def wouldB (x : GKind) (u : List GStep) (s : GStep) : Bool := record_isFor x s && !(valS x u).any fun b => decide (b.Time < s.Time)
theorem rec_first (v : List GBest) (s : Int) : (decide (((recS v).length : Int) = 0) || decide (s ≤ (nth (recS v) 0).Time)) = !(v.any fun b => decide (b.Time < s)) := by
  rcases hist_last _ v rfl with ⟨rfl, _⟩ | ⟨q, c, _, h2, h3⟩
  · rfl
  · have hr := rec_min v c h2 h3
    have hne : recS v ≠ [] := by
      rw [hr]
      exact List.ne_nil_of_mem (List.mem_filter.2 ⟨h2, by simp⟩)
    obtain ⟨z, zs, hz⟩ := List.exists_cons_of_ne_nil hne
    have hzt : z.Time = c.Time := by
      have : z ∈ recS v := by rw [hz]; simp
      rw [hr] at this
      exact of_decide_eq_true (List.mem_filter.1 this).2
    rw [hz]
    have hn : nth (z :: zs) 0 = z := rfl
    rw [hn, hzt, decide_eq_false (by simp; omega), Bool.false_or]
    by_cases hs : s ≤ c.Time
    · rw [decide_eq_true hs]
      have : (v.any fun b => decide (b.Time < s)) = false := List.any_eq_false.2 fun o ho => by have := h3 o ho; simp; omega
      rw [this]; rfl
    · rw [decide_eq_false hs]
      have : (v.any fun b => decide (b.Time < s)) = true := List.any_eq_true.2 ⟨c, h2, by simp; omega⟩
      rw [this]; rfl
theorem Would_is (k : List GKind) (hk : k.length ≤ 1000) (l : List GStep) (s : GStep) {e f g : Int} (he : record_CheckKinds k = some e) (hf : record_CheckSteps l = some f) (hg0 : record_checkStep s = some g) :
    ∃ S, record_Would k l s = some (S, baseF e f (tumblaw2_errs [g, tumblaw2_when (!decide (s.Kind = 1)) 4, tumblaw2_when (decide (idF (upS l 345686400000) s.Id = 0)) 6])) ∧
      (baseF e f (tumblaw2_errs [g, tumblaw2_when (!decide (s.Kind = 1)) 4, tumblaw2_when (decide (idF (upS l 345686400000) s.Id = 0)) 6]) ≠ 0 → S = []) ∧
      (baseF e f (tumblaw2_errs [g, tumblaw2_when (!decide (s.Kind = 1)) 4, tumblaw2_when (decide (idF (upS l 345686400000) s.Id = 0)) 6]) = 0 → S = (k.filter fun x => wouldB x (upS l 345686400000) s).map (·.Key)) := by
  obtain ⟨f', h1, _, h3⟩ := steps_both l
  have hff : f' = f := by rw [hf] at h1; exact (Option.some.inj h1).symm
  subst hff
  unfold record_Would
  rw [both_is k l he hf, checkSwum_is s hg0]
  simp only [Option.bind_some, joinR]
  rcases base_cases e f' (tumblaw2_errs [g, tumblaw2_when (!decide (s.Kind = 1)) 4, tumblaw2_when (decide (idF (upS l 345686400000) s.Id = 0)) 6]) with ⟨g1, g2⟩ | ⟨g1, g2, g3⟩ | ⟨g1, g2, g3⟩
  · rw [g2]; exact ⟨[], by simp [g1], fun _ => rfl, fun h => absurd h g1⟩
  · rw [g3]; exact ⟨[], by simp [g1, g2], fun _ => rfl, fun h => absurd h g2⟩
  · rw [g3]
    subst g1 g2
    obtain ⟨hl, hg, ha⟩ := h3 rfl
    obtain ⟨sw, e1, e2⟩ := follow_is l hl hg ha 345686400000
    have hu := upS_len l 345686400000
    simp only [ne_eq, not_true_eq_false, if_false, decide_true, Bool.not_true, Bool.false_eq_true, errs_cons, errs_nil]
    unfold tumblaw2_when idF
    by_cases hgz : g = 0
    · by_cases hk1 : s.Kind = 1
      · rw [e1]
        simp only [hgz, hk1, decide_true, Bool.not_true, Bool.false_eq_true, if_false, Option.bind_some, not_true_eq_false, ne_eq]
        rw [has_is e2]
        cases hasS (upS l 345686400000) s.Id with
        | true => exact ⟨[], by simp, fun _ => rfl, fun h => by simp at h⟩
        | false =>
          refine ⟨(k.filter fun x => wouldB x (upS l 345686400000) s).map (·.Key), ?_, fun h => by simp at h, fun _ => rfl⟩
          simp only [Bool.false_eq_true, if_false]
          rw [app_0 (fun x : GKind => wouldB x (upS l 345686400000) s) (·.Key) (fun x => some (x, (0 : Int))) (record_Would_l1 (sw, refs (upS l 345686400000)) s fun x => some (x, 0)) (fun _ _ => rfl) k (by omega) (fun y ys i x => by
            rw [record_Would_l1]
            simp only [joinR]
            rw [record_is y (by omega) e2]
            simp only [Option.bind_some]
            have hr := rec_first (valS y (upS l 345686400000)) s.Time
            unfold wouldB
            rw [← hr]
            generalize recS (valS y (upS l 345686400000)) = rr
            cases record_isFor y s with
            | false => simp
            | true =>
              simp only [if_true, Bool.true_and]
              by_cases h0 : (rr.length : Int) = 0
              · simp [h0]
              · simp only [h0, decide_false, Bool.false_eq_true, if_false]
                rw [chkT (inB_iff.2 (by omega))])]
          simp
      · exact ⟨[], by simp [hgz, hk1], fun _ => rfl, fun h => by simp [hgz, hk1] at h⟩
    · exact ⟨[], by simp [hgz], fun _ => rfl, fun h => by simp [hgz] at h⟩
end Go.Proofs.YtahhldfcmbgfpaaGreatDoor
