/- What lasts of records: who holds them, for how long, what would be one: the program's answers are the reference's. No program stands here but its twins. -/
import Derived.Test.YtdkpfiinkodbfaaGreatDoorPRecQ
namespace Go.Proofs.YtdkpfiinkodbfaaGreatDoor
open Go
/-- Whether something was swum. -/
def hasS (u : List GStep) (id : ByteArray) : Bool := (firsts u).any fun s => decide (s.Id = id)
def idF (u : List GStep) (id : ByteArray) : Int := if hasS u id then 0 else 8
theorem has_is {u : List GStep} {sw : List Grecord_swum} (h : Fol u sw) (id : ByteArray) : record_has sw id = hasS u id := by
  unfold hasS
  rw [← h.steps, List.any_map]
  exact any_l (fun y : Grecord_swum => decide (y.s_.Id = id)) (slices_IndexFunc_swum_record_has_c1_l1 id (-1)) (fun _ => rfl) (fun _ _ _ => rfl) sw
theorem idFault_is (l : List GStep) (hl : l.length ≤ 100000) (id : ByteArray) (t : Int) : tumbref2_IdFault l id t = some (idF (upS l t) id) := by
  unfold tumbref2_IdFault
  rw [swumBy_is l hl]
  simp only [Option.bind_some]
  have ha : slices_ContainsFunc_Step_tumbref2_IdFault_c1 (firsts (upS l t)) id = hasS (upS l t) id :=
    any_l (fun s : GStep => decide (s.Id = id)) (slices_IndexFunc_Step_tumbref2_IdFault_c1_l1 id (-1)) (fun _ => rfl) (fun _ _ _ => rfl) _
  rw [ha]
  unfold idF
  cases hasS (upS l t) id <;> rfl
theorem heldAny (v : List GBest) (id : ByteArray) : slices_ContainsFunc_Best_record_Held_c1 v id = v.any fun b => decide (b.Id = id) :=
  any_l (fun b : GBest => decide (b.Id = id)) (slices_IndexFunc_Best_record_Held_c1_l1 id (-1)) (fun _ => rfl) (fun _ _ _ => rfl) v
theorem heldAny' (v : List GBest) (id : ByteArray) : slices_ContainsFunc_Best_tumbref2_HeldBy_c1 v id = v.any fun b => decide (b.Id = id) :=
  any_l (fun b : GBest => decide (b.Id = id)) (slices_IndexFunc_Best_tumbref2_HeldBy_c1_l1 id (-1)) (fun _ => rfl) (fun _ _ _ => rfl) v
/-- The kinds of which something is a record. -/
def heldS (k : List GKind) (u : List GStep) (id : ByteArray) : List ByteArray := (k.filter fun x => (recS (valS x u)).any fun b => decide (b.Id = id)).map (·.Key)
theorem heldBy_is (k : List GKind) (hk : k.length ≤ 1000) (l : List GStep) (hl : l.length ≤ 100000) (id : ByteArray) (t : Int) : tumbref2_HeldBy k l id t = some (heldS k (upS l t) id) := by
  unfold tumbref2_HeldBy
  rw [joinR]
  exact app_0 (fun x : GKind => (recS (valS x (upS l t))).any fun b => decide (b.Id = id)) (·.Key) (fun x => some x) (tumbref2_HeldBy_l1 l t id fun x => some x) (fun _ _ => rfl) k (by omega) (fun y ys i x => by
    rw [tumbref2_HeldBy_l1]
    simp only [joinR]
    rw [recordOf_is y l hl t]
    simp only [Option.bind_some]
    rw [heldAny'])
/-- What both checks say. -/
def baseF (e f x : Int) : Int := if tumblaw2_errs [e, f] = 0 then x else tumblaw2_errs [e, f]
theorem base_cases (e f x : Int) : (e ≠ 0 ∧ baseF e f x = e) ∨ (e = 0 ∧ f ≠ 0 ∧ baseF e f x = f) ∨ (e = 0 ∧ f = 0 ∧ baseF e f x = x) := by
  unfold baseF
  simp only [errs_cons, errs_nil]
  by_cases h : e = 0
  · by_cases h2 : f = 0
    · exact .inr (.inr ⟨h, h2, by simp [h, h2]⟩)
    · exact .inr (.inl ⟨h, h2, by simp [h, h2]⟩)
  · exact .inl ⟨h, by simp [h]⟩
theorem Held_is (k : List GKind) (hk : k.length ≤ 1000) (l : List GStep) (id : ByteArray) (t : Int) {e f : Int} (he : record_CheckKinds k = some e) (hf : record_CheckSteps l = some f) :
    ∃ S, record_Held k l id t = some (S, baseF e f (tumblaw2_errs [tumblaw2_momentFault t, idF (upS l t) id])) ∧ (baseF e f (tumblaw2_errs [tumblaw2_momentFault t, idF (upS l t) id]) ≠ 0 → S = []) ∧
      (baseF e f (tumblaw2_errs [tumblaw2_momentFault t, idF (upS l t) id]) = 0 → S = heldS k (upS l t) id) := by
  obtain ⟨f', h1, _, h3⟩ := steps_both l
  have hff : f' = f := by rw [hf] at h1; exact (Option.some.inj h1).symm
  subst hff
  unfold record_Held
  rw [both_is k l he hf, momentR]
  simp only [Option.bind_some, joinR]
  rcases base_cases e f' (tumblaw2_errs [tumblaw2_momentFault t, idF (upS l t) id]) with ⟨g1, g2⟩ | ⟨g1, g2, g3⟩ | ⟨g1, g2, g3⟩
  · rw [g2]; exact ⟨[], by simp [g1], fun _ => rfl, fun h => absurd h g1⟩
  · rw [g3]; exact ⟨[], by simp [g1, g2], fun _ => rfl, fun h => absurd h g2⟩
  · rw [g3]
    subst g1 g2
    obtain ⟨hl, hg, ha⟩ := h3 rfl
    obtain ⟨sw, e1, e2⟩ := follow_is l hl hg ha t
    have hu := upS_len l t
    simp only [ne_eq, not_true_eq_false, if_false, decide_true, Bool.not_true, Bool.false_eq_true, errs_cons, errs_nil]
    unfold tumblaw2_momentFault tumblaw2_when idF
    cases hm : tumbref2_Moment t with
    | false => exact ⟨[], by simp, fun _ => rfl, fun h => by simp at h⟩
    | true =>
      rw [e1]
      simp only [Bool.not_true, Bool.false_eq_true, if_false, Option.bind_some]
      rw [has_is e2]
      cases hasS (upS l t) id with
      | false => exact ⟨[], by simp, fun _ => rfl, fun h => by simp at h⟩
      | true =>
        refine ⟨heldS k (upS l t) id, ?_, fun h => by simp at h, fun _ => rfl⟩
        simp only [Bool.not_true, Bool.false_eq_true, if_false]
        rw [app_0 (fun x : GKind => (recS (valS x (upS l t))).any fun b => decide (b.Id = id)) (·.Key) (fun x => some (x, (0 : Int))) (record_Held_l1 (sw, refs (upS l t)) id fun x => some (x, 0)) (fun _ _ => rfl) k (by omega) (fun y ys i x => by
          rw [record_Held_l1]
          simp only [joinR]
          rw [record_is y (by omega) e2]
          simp only [Option.bind_some]
          rw [heldAny])]
        simp [heldS]
theorem longIdx (h : List GBest) (id : ByteArray) : slices_IndexFunc_Best_record_Long_c1 h id = slices_IndexFunc_Best_tumbref2_LongOf_c1 h id := by
  have : ∀ (l : List GBest) (i : Nat), slices_IndexFunc_Best_record_Long_c1_l1 id (-1) l i = slices_IndexFunc_Best_tumbref2_LongOf_c1_l1 id (-1) l i := by
    intro l
    induction l with
    | nil => intro _; rfl
    | cons y l ih =>
      intro i
      rw [slices_IndexFunc_Best_record_Long_c1_l1, slices_IndexFunc_Best_tumbref2_LongOf_c1_l1, ih]
      rfl
  exact this h 0
theorem longIn (h : List GBest) (id : ByteArray) (hn : ¬ slices_IndexFunc_Best_tumbref2_LongOf_c1 h id < 0) : ∃ pre y post, h = pre ++ y :: post ∧ slices_IndexFunc_Best_tumbref2_LongOf_c1 h id = (pre.length : Int) := by
  have hx : slices_IndexFunc_Best_tumbref2_LongOf_c1 h id = slices_IndexFunc_Best_tumbref2_LongOf_c1_l1 id (-1) h 0 := rfl
  rw [hx] at hn ⊢
  rcases find_l (fun y k => k (tumbref2_LongOf_c1 y id)) (fun y => tumbref2_LongOf_c1 y id) (-1) (fun z => z) (slices_IndexFunc_Best_tumbref2_LongOf_c1_l1 id (-1)) (fun _ => rfl) (fun _ _ _ => rfl) h 0 (fun _ _ _ => rfl) with ⟨pre, y, post, e, _, _, g3⟩ | ⟨_, g2⟩
  · exact ⟨pre, y, post, e, by rw [g3]; simp⟩
  · rw [g2] at hn; omega
theorem long_loop (h : List GBest) (id : ByteArray) (hin : inB (slices_IndexFunc_Best_tumbref2_LongOf_c1 h id) h.length = true) (j : Int) : ∀ (ys : List GBest) (i i' : Nat), ∃ n, record_Long_l1 h id (some (j, 0)) ys i = some (n, 0) ∧ tumbref2_LongOf_l1 h id (some j) ys i' = some n
  | [], _, _ => ⟨j, rfl, rfl⟩
  | y :: ys, i, i' => by
    obtain ⟨n, h1, h2⟩ := long_loop h id hin j ys (i + 1) (i' + 1)
    rw [record_Long_l1, tumbref2_LongOf_l1, longIdx, h1, h2]
    simp only [chkT hin]
    split
    · exact ⟨_, rfl, rfl⟩
    · exact ⟨n, rfl, rfl⟩
theorem long_both (h : List GBest) (hl : h.length ≤ 100000) (id : ByteArray) (t : Int) (X : Option (Int × Int)) (Y : Option Int)
    (hX : X = if decide ((slices_IndexFunc_Best_record_Long_c1 h id) < 0) then some (0, 0) else Chk (cutB (W ((slices_IndexFunc_Best_record_Long_c1 h id) + 1)) (h.length : Int) h.length) (Join (Chk (inB (slices_IndexFunc_Best_record_Long_c1 h id) h.length) (some (W (t - ((nth h (slices_IndexFunc_Best_record_Long_c1 h id)).Since)), 0))) (fun j1 => record_Long_l1 h id j1 (cut h (W ((slices_IndexFunc_Best_record_Long_c1 h id) + 1)) h.length) 0)))
    (hY : Y = if decide ((slices_IndexFunc_Best_tumbref2_LongOf_c1 h id) < 0) then some 0 else Chk (cutB (slices_IndexFunc_Best_tumbref2_LongOf_c1 h id) (h.length : Int) h.length) (Join (Chk (inB (slices_IndexFunc_Best_tumbref2_LongOf_c1 h id) h.length) (some (W (t - ((nth h (slices_IndexFunc_Best_tumbref2_LongOf_c1 h id)).Since))))) (fun j1 => tumbref2_LongOf_l1 h id j1 (cut h (slices_IndexFunc_Best_tumbref2_LongOf_c1 h id) h.length) 0))) :
    ∃ n, X = some (n, 0) ∧ Y = some n := by
  subst hX hY
  rw [longIdx]
  simp only [joinR]
  by_cases hn : slices_IndexFunc_Best_tumbref2_LongOf_c1 h id < 0
  · simp only [hn, decide_true, if_true]
    exact ⟨0, rfl, rfl⟩
  · simp only [hn, decide_false, Bool.false_eq_true, if_false]
    obtain ⟨pre, y, post, e, hi⟩ := longIn h id hn
    have hlen : h.length = pre.length + (post.length + 1) := by rw [e]; simp
    have hin : inB (slices_IndexFunc_Best_tumbref2_LongOf_c1 h id) h.length = true := inB_iff.2 (by rw [hi]; omega)
    have hw : W (slices_IndexFunc_Best_tumbref2_LongOf_c1 h id + 1) = ((pre.length + 1 : Nat) : Int) := by rw [hi, W_in (by omega) (by omega)]; rfl
    have hc1 : cut h ((pre.length + 1 : Nat) : Int) h.length = post := by
      unfold cut
      rw [List.take_of_length_le (by omega), e]
      simp
    have hc2 : cut h (slices_IndexFunc_Best_tumbref2_LongOf_c1 h id) h.length = y :: post := by
      unfold cut
      rw [hi, List.take_of_length_le (by omega), e]
      simp
    have hy : nth h (slices_IndexFunc_Best_tumbref2_LongOf_c1 h id) = y := by
      rw [hi]
      have : nth (pre ++ y :: post) (pre.length : Int) = y := nth_mid pre y post rfl
      rwa [← e] at this
    obtain ⟨n, h1, h2⟩ := long_loop h id hin (W (t - (nth h (slices_IndexFunc_Best_tumbref2_LongOf_c1 h id)).Since)) post 0 1
    refine ⟨n, ?_, ?_⟩
    · rw [hw, chkT (cutB_iff.2 (by omega)), chkT hin, hc1, h1]
    · rw [chkT (cutB_iff.2 (by rw [hi]; omega)), chkT hin, hc2, tumbref2_LongOf_l1, chkT hin, hy, if_neg (by simp)]
      rw [hy] at h2
      exact h2
theorem Long_is (k : List GKind) (l : List GStep) (id kind : ByteArray) (t : Int) {e f : Int} (he : record_CheckKinds k = some e) (hf : record_CheckSteps l = some f) :
    ∃ n, record_Long k l id kind t = some (n, baseF e f (tumblaw2_errs [tumblaw2_momentFault t, tumblaw2_kindFault k kind, idF (upS l t) id])) ∧ (baseF e f (tumblaw2_errs [tumblaw2_momentFault t, tumblaw2_kindFault k kind, idF (upS l t) id]) ≠ 0 → n = 0) ∧
      (baseF e f (tumblaw2_errs [tumblaw2_momentFault t, tumblaw2_kindFault k kind, idF (upS l t) id]) = 0 → inB (tumbref2_KindAt k kind) k.length = true ∧ tumbref2_LongOf (nth k (tumbref2_KindAt k kind)) l id t = some n) := by
  obtain ⟨f', h1, _, h3⟩ := steps_both l
  have hff : f' = f := by rw [hf] at h1; exact (Option.some.inj h1).symm
  subst hff
  unfold record_Long
  rw [both_is k l he hf, momentR, kindAt_both]
  simp only [Option.bind_some]
  rcases base_cases e f' (tumblaw2_errs [tumblaw2_momentFault t, tumblaw2_kindFault k kind, idF (upS l t) id]) with ⟨g1, g2⟩ | ⟨g1, g2, g3⟩ | ⟨g1, g2, g3⟩
  · rw [g2]; exact ⟨0, by simp [g1], fun _ => rfl, fun h => absurd h g1⟩
  · rw [g3]; exact ⟨0, by simp [g1, g2], fun _ => rfl, fun h => absurd h g2⟩
  · rw [g3]
    subst g1 g2
    obtain ⟨hl, hg, ha⟩ := h3 rfl
    obtain ⟨sw, e1, e2⟩ := follow_is l hl hg ha t
    have hu := upS_len l t
    simp only [ne_eq, not_true_eq_false, if_false, decide_true, Bool.not_true, Bool.false_eq_true, errs_cons, errs_nil]
    unfold tumblaw2_momentFault tumblaw2_kindFault tumblaw2_when idF
    cases hm : tumbref2_Moment t with
    | false => exact ⟨0, by simp, fun _ => rfl, fun h => by simp at h⟩
    | true =>
      by_cases hi : tumbref2_KindAt k kind < 0
      · exact ⟨0, by simp [hi], fun _ => rfl, fun h => by simp [hi] at h⟩
      · have hin := kindAt_in k kind hi
        rw [e1]
        simp only [Bool.not_true, Bool.false_eq_true, if_false, Option.bind_some, hi, decide_false]
        rw [has_is e2]
        cases hasS (upS l t) id with
        | false => exact ⟨0, by simp, fun _ => rfl, fun h => by simp at h⟩
        | true =>
          have hv := valS_len (nth k (tumbref2_KindAt k kind)) (upS l t)
          have hh := histS_len (valS (nth k (tumbref2_KindAt k kind)) (upS l t))
          obtain ⟨n, n1, n2⟩ := long_both (histS (valS (nth k (tumbref2_KindAt k kind)) (upS l t))) (by omega) id t _ _ rfl rfl
          refine ⟨n, ?_, fun h => by simp at h, fun _ => ⟨hin, ?_⟩⟩
          · simp only [Bool.not_true, Bool.false_eq_true, if_false]
            rw [chkT hin, history_is _ (by omega) e2]
            simp only [Option.bind_some]
            simpa using n1
          · unfold tumbref2_LongOf
            rw [historyOf_is _ l (by omega) t]
            simp only [Option.bind_some]
            exact n2
/-- Whether a step would be a record of a kind. -/
def wouldB (x : GKind) (u : List GStep) (s : GStep) : Bool := record_isFor x s && !(valS x u).any fun b => decide (b.Time < s.Time)
theorem wouldOf_is (k : List GKind) (hk : k.length ≤ 1000) (l : List GStep) (hl : l.length ≤ 100000) (s : GStep) : tumbref2_WouldOf k l s = some ((k.filter fun x => wouldB x (upS l 345686400000) s).map (·.Key)) := by
  unfold tumbref2_WouldOf
  rw [joinR]
  exact app_0 (fun x : GKind => wouldB x (upS l 345686400000) s) (·.Key) (fun x => some x) (tumbref2_WouldOf_l1 s l fun x => some x) (fun _ _ => rfl) k (by omega) (fun y ys i x => by
    rw [tumbref2_WouldOf_l1]
    simp only [joinR]
    rw [valid_is y l hl, isFor_both]
    simp only [Option.bind_some]
    have ha : slices_ContainsFunc_Best_tumbref2_WouldOf_c1 (valS y (upS l 345686400000)) s = (valS y (upS l 345686400000)).any fun b => decide (b.Time < s.Time) :=
      any_l (fun b : GBest => decide (b.Time < s.Time)) (slices_IndexFunc_Best_tumbref2_WouldOf_c1_l1 s (-1)) (fun _ => rfl) (fun _ _ _ => rfl) _
    rw [ha]
    unfold wouldB
    cases record_isFor y s <;> simp)
theorem rec_first (v : List GBest) (s : Int) : (decide (((recS v).length : Int) = 0) || decide (s ≤ (nth (recS v) 0).Time)) = !(v.any fun b => decide (b.Time < s)) := by
  rcases hist_last _ v rfl with ⟨rfl, _⟩ | ⟨q, c, _, h2, h3⟩
  · rfl
  · have hr := rec_min v c h2 h3
    have hne : recS v ≠ [] := by
      rw [hr]
      exact List.ne_nil_of_mem (List.mem_filter.2 ⟨h2, by simp⟩)
    obtain ⟨z, zs, hz⟩ := List.exists_cons_of_ne_nil hne
    have hzt : z.Time = c.Time := by
      have : z ∈ recS v := by rw [hz]; simp
      rw [hr] at this
      exact of_decide_eq_true (List.mem_filter.1 this).2
    rw [hz]
    have hn : nth (z :: zs) 0 = z := rfl
    rw [hn, hzt, decide_eq_false (by simp; omega), Bool.false_or]
    by_cases hs : s ≤ c.Time
    · rw [decide_eq_true hs]
      have : (v.any fun b => decide (b.Time < s)) = false := List.any_eq_false.2 fun o ho => by have := h3 o ho; simp; omega
      rw [this]; rfl
    · rw [decide_eq_false hs]
      have : (v.any fun b => decide (b.Time < s)) = true := List.any_eq_true.2 ⟨c, h2, by simp; omega⟩
      rw [this]; rfl
theorem Would_is (k : List GKind) (hk : k.length ≤ 1000) (l : List GStep) (s : GStep) {e f g : Int} (he : record_CheckKinds k = some e) (hf : record_CheckSteps l = some f) (hg0 : record_checkStep s = some g) :
    ∃ S, record_Would k l s = some (S, baseF e f (tumblaw2_errs [g, tumblaw2_when (!decide (s.Kind = 1)) 4, tumblaw2_when (decide (idF (upS l 345686400000) s.Id = 0)) 6])) ∧
      (baseF e f (tumblaw2_errs [g, tumblaw2_when (!decide (s.Kind = 1)) 4, tumblaw2_when (decide (idF (upS l 345686400000) s.Id = 0)) 6]) ≠ 0 → S = []) ∧
      (baseF e f (tumblaw2_errs [g, tumblaw2_when (!decide (s.Kind = 1)) 4, tumblaw2_when (decide (idF (upS l 345686400000) s.Id = 0)) 6]) = 0 → S = (k.filter fun x => wouldB x (upS l 345686400000) s).map (·.Key)) := by
  obtain ⟨f', h1, _, h3⟩ := steps_both l
  have hff : f' = f := by rw [hf] at h1; exact (Option.some.inj h1).symm
  subst hff
  unfold record_Would
  rw [both_is k l he hf, checkSwum_is s hg0]
  simp only [Option.bind_some, joinR]
  rcases base_cases e f' (tumblaw2_errs [g, tumblaw2_when (!decide (s.Kind = 1)) 4, tumblaw2_when (decide (idF (upS l 345686400000) s.Id = 0)) 6]) with ⟨g1, g2⟩ | ⟨g1, g2, g3⟩ | ⟨g1, g2, g3⟩
  · rw [g2]; exact ⟨[], by simp [g1], fun _ => rfl, fun h => absurd h g1⟩
  · rw [g3]; exact ⟨[], by simp [g1, g2], fun _ => rfl, fun h => absurd h g2⟩
  · rw [g3]
    subst g1 g2
    obtain ⟨hl, hg, ha⟩ := h3 rfl
    obtain ⟨sw, e1, e2⟩ := follow_is l hl hg ha 345686400000
    have hu := upS_len l 345686400000
    simp only [ne_eq, not_true_eq_false, if_false, decide_true, Bool.not_true, Bool.false_eq_true, errs_cons, errs_nil]
    unfold tumblaw2_when idF
    by_cases hgz : g = 0
    · by_cases hk1 : s.Kind = 1
      · rw [e1]
        simp only [hgz, hk1, decide_true, Bool.not_true, Bool.false_eq_true, if_false, Option.bind_some, not_true_eq_false, ne_eq]
        rw [has_is e2]
        cases hasS (upS l 345686400000) s.Id with
        | true => exact ⟨[], by simp, fun _ => rfl, fun h => by simp at h⟩
        | false =>
          refine ⟨(k.filter fun x => wouldB x (upS l 345686400000) s).map (·.Key), ?_, fun h => by simp at h, fun _ => rfl⟩
          simp only [Bool.false_eq_true, if_false]
          rw [app_0 (fun x : GKind => wouldB x (upS l 345686400000) s) (·.Key) (fun x => some (x, (0 : Int))) (record_Would_l1 (sw, refs (upS l 345686400000)) s fun x => some (x, 0)) (fun _ _ => rfl) k (by omega) (fun y ys i x => by
            rw [record_Would_l1]
            simp only [joinR]
            rw [record_is y (by omega) e2]
            simp only [Option.bind_some]
            have hr := rec_first (valS y (upS l 345686400000)) s.Time
            unfold wouldB
            rw [← hr]
            generalize recS (valS y (upS l 345686400000)) = rr
            cases record_isFor y s with
            | false => simp
            | true =>
              simp only [if_true, Bool.true_and]
              by_cases h0 : (rr.length : Int) = 0
              · simp [h0]
              · simp only [h0, decide_false, Bool.false_eq_true, if_false]
                rw [chkT (inB_iff.2 (by omega))])]
          simp
      · exact ⟨[], by simp [hgz, hk1], fun _ => rfl, fun h => by simp [hgz, hk1] at h⟩
    · exact ⟨[], by simp [hgz], fun _ => rfl, fun h => by simp [hgz] at h⟩
theorem Needed_is (k : List GKind) (l : List GStep) (kind : ByteArray) (t : Int) {e f : Int} (he : record_CheckKinds k = some e) (hf : record_CheckSteps l = some f) :
    ∃ n b, record_Needed k l kind t = some (n, b, twoF e f k kind t) ∧ (twoF e f k kind t ≠ 0 → n = 0 ∧ b = false) ∧
      (twoF e f k kind t = 0 → inB (tumbref2_KindAt k kind) k.length = true ∧ tumbref2_NeededOf (nth k (tumbref2_KindAt k kind)) l t = some (n, b) ∧
        ((recS (valS (nth k (tumbref2_KindAt k kind)) (upS l t)) = [] ∧ n = 0 ∧ b = false) ∨ (recS (valS (nth k (tumbref2_KindAt k kind)) (upS l t)) ≠ [] ∧
          b = !decide ((nth (recS (valS (nth k (tumbref2_KindAt k kind)) (upS l t))) 0).Time = 1) ∧ (b = true → n = W ((nth (recS (valS (nth k (tumbref2_KindAt k kind)) (upS l t))) 0).Time - 1))))) := by
  unfold record_Needed
  rcases ask_is k l kind t he hf with ⟨h1, h2⟩ | ⟨h1, h2, h3, sw, h4, h5⟩
  · rw [h2]
    exact ⟨0, false, by simp [h1], fun _ => ⟨rfl, rfl⟩, fun h => absurd h h1⟩
  · rw [h4, h1]
    have hu := upS_len l t
    unfold tumbref2_NeededOf
    rw [recordOf_is _ l (by omega) t]
    simp only [Option.bind_some, decide_true, Bool.not_true, Bool.false_eq_true, if_false, joinR]
    rw [record_is _ (by omega) h5]
    simp only [Option.bind_some]
    generalize recS (valS (nth k (tumbref2_KindAt k kind)) (upS l t)) = rr
    by_cases h0 : (rr.length : Int) = 0
    · have : rr = [] := List.eq_nil_of_length_eq_zero (by omega)
      subst this
      exact ⟨0, false, by simp, fun h => absurd rfl h, fun _ => ⟨h2, by simp, .inl ⟨rfl, rfl, rfl⟩⟩⟩
    · have hin : inB 0 rr.length = true := inB_iff.2 (by omega)
      have hne : rr ≠ [] := by rintro rfl; exact h0 rfl
      by_cases h7 : (nth rr 0).Time = 1
      · exact ⟨0, false, by simp [hne, chkT hin, h7], fun h => absurd rfl h, fun _ => ⟨h2, by simp [hne, chkT hin, h7], .inr ⟨hne, by simp [h7], fun h => by cases h⟩⟩⟩
      · exact ⟨W ((nth rr 0).Time - 1), true, by simp [hne, chkT hin, h7], fun h => absurd rfl h, fun _ => ⟨h2, by simp [hne, chkT hin, h7], .inr ⟨hne, by simp [h7], fun _ => rfl⟩⟩⟩
end Go.Proofs.YtdkpfiinkodbfaaGreatDoor
