/- What is asked of records: the program's answers are the reference's. No program stands here but its twins. -/
import Derived.Test.YtdfcgiddcibhfaaGreatDoorPRecH
import Derived.Test.YtdfcgiddcibhfaaGreatDoorPErrs
namespace Go.Proofs.YtdfcgiddcibhfaaGreatDoor
open Go
theorem eqBest_is (l : List GBest) : slices_Equal_Best l l = some true := by
  unfold slices_Equal_Best
  rw [if_neg (by simp), joinR]
  exact eq_l l (slices_Equal_Best_l1 l (some true)) (fun _ => rfl) (fun _ _ _ => rfl) l [] rfl
theorem eqStr_is (l : List ByteArray) : slices_Equal_string l l = some true := by
  unfold slices_Equal_string
  rw [if_neg (by simp), joinR]
  exact eq_l l (slices_Equal_string_l1 l (some true)) (fun _ => rfl) (fun _ _ _ => rfl) l [] rfl
theorem forOf_is (k : List GKind) (hk : k.length ≤ 1000) (y : GStep) : tumbref2_ForOf k y = some ((k.filter fun x => record_isFor x y).map (·.Key)) := by
  unfold tumbref2_ForOf
  rw [joinR]
  exact app_0 (fun x : GKind => record_isFor x y) (·.Key) (fun x => some x) (tumbref2_ForOf_l1 y fun x => some x) (fun _ _ => rfl) k (by omega) (fun _ _ _ _ => rfl)
theorem checkSwum_is (y : GStep) {g : Int} (hg : record_checkStep y = some g) : record_checkSwum y = some (tumblaw2_errs [g, tumblaw2_when (!decide (y.Kind = 1)) 4]) := by
  unfold record_checkSwum
  rw [hg]
  simp only [Option.bind_some, errs_cons, errs_nil, tumblaw2_when]
  by_cases h : g = 0 <;> by_cases h1 : y.Kind = 1 <;> simp [h, h1]
theorem for_is (k : List GKind) (hk : k.length ≤ 1000) (y : GStep) {e g : Int} (he : record_CheckKinds k = some e) (hg : record_checkStep y = some g) :
    record_For k y = some (if tumblaw2_errs [e, g, tumblaw2_when (!decide (y.Kind = 1)) 4] = 0 then (k.filter fun x => record_isFor x y).map (·.Key) else [], tumblaw2_errs [e, g, tumblaw2_when (!decide (y.Kind = 1)) 4]) := by
  unfold record_For
  rw [he, checkSwum_is y hg]
  simp only [Option.bind_some, joinR]
  rw [app_0 (fun x : GKind => record_isFor x y) (·.Key) (fun x => some (x, (0 : Int))) (record_For_l1 y fun x => some (x, 0)) (fun _ _ => rfl) k (by omega) (fun _ _ _ _ => rfl)]
  simp only [errs_cons e]
  by_cases h : e = 0
  · by_cases h2 : tumblaw2_errs [g, tumblaw2_when (!decide (y.Kind = 1)) 4] = 0 <;> simp [h, h2]
  · simp [h]
theorem kindAt_both (k : List GKind) (key : ByteArray) : record_kindAt k key = tumbref2_KindAt k key := by
  have : ∀ (l : List GKind) (i : Nat), slices_IndexFunc_Kind_record_kindAt_c1_l1 key (-1) l i = slices_IndexFunc_Kind_tumbref2_KindAt_c1_l1 key (-1) l i := by
    intro l
    induction l with
    | nil => intro _; rfl
    | cons y l ih =>
      intro i
      rw [slices_IndexFunc_Kind_record_kindAt_c1_l1, slices_IndexFunc_Kind_tumbref2_KindAt_c1_l1, ih]
      rfl
  exact this k 0
theorem kindAt_in (k : List GKind) (key : ByteArray) (h : ¬ tumbref2_KindAt k key < 0) : inB (tumbref2_KindAt k key) k.length = true := by
  have hx : tumbref2_KindAt k key = slices_IndexFunc_Kind_tumbref2_KindAt_c1_l1 key (-1) k 0 := rfl
  rw [hx] at h ⊢
  rcases find_l (fun y k => k (tumbref2_KindAt_c1 y key)) (fun y => tumbref2_KindAt_c1 y key) (-1) id (slices_IndexFunc_Kind_tumbref2_KindAt_c1_l1 key (-1)) (fun _ => rfl) (fun _ _ _ => rfl) k 0 (fun _ _ _ => rfl) with ⟨pre, y, post, e, _, _, g3⟩ | ⟨_, g2⟩
  · rw [g3, e]
    exact inB_iff.2 ⟨by show (0 : Int) ≤ ((0 + pre.length : Nat) : Int); omega, by show ((0 + pre.length : Nat) : Int) < _; simp; omega⟩
  · rw [g2] at h; omega
/-- What is asked of a kind. -/
def twoF (e f : Int) (k : List GKind) (kind : ByteArray) (t : Int) : Int := if tumblaw2_errs [e, f] = 0 then tumblaw2_errs [tumblaw2_kindFault k kind, tumblaw2_momentFault t] else tumblaw2_errs [e, f]
theorem ask_is (k : List GKind) (l : List GStep) (kind : ByteArray) (t : Int) {e f : Int} (he : record_CheckKinds k = some e) (hf : record_CheckSteps l = some f) :
    (twoF e f k kind t ≠ 0 ∧ record_ask k l kind t = some (GKind.mk k_empty k_empty [] 0 0, [], twoF e f k kind t)) ∨
    (twoF e f k kind t = 0 ∧ inB (tumbref2_KindAt k kind) k.length = true ∧ l.length ≤ 1000 ∧ ∃ sw, record_ask k l kind t = some (nth k (tumbref2_KindAt k kind), sw, 0) ∧ Fol (upS l t) sw) := by
  obtain ⟨f', h1, _, h3⟩ := steps_both l
  have hff : f' = f := by rw [hf] at h1; exact (Option.some.inj h1).symm
  subst hff
  unfold record_ask
  rw [both_is k l he hf, kindAt_both, momentR]
  simp only [Option.bind_some]
  unfold twoF
  simp only [errs_cons, errs_nil]
  by_cases h : e = 0
  · by_cases h2 : f' = 0
    · subst h h2
      simp only [ne_eq, not_true_eq_false, if_false, if_true, decide_true, Bool.not_true, Bool.false_eq_true]
      unfold tumblaw2_kindFault tumblaw2_momentFault tumblaw2_when
      by_cases hi : tumbref2_KindAt k kind < 0
      · left
        simp [hi]
      · cases hm : tumbref2_Moment t with
        | false => left; simp [hi]
        | true =>
          right
          have hin := kindAt_in k kind hi
          obtain ⟨hl, hg, ha⟩ := h3 rfl
          obtain ⟨sw, e1, e2⟩ := follow_is l hl hg ha t
          refine ⟨by simp [hi], hin, hl, sw, ?_, e2⟩
          simp [hi, e1, chkT hin]
    · left; simp [h, h2]
  · left; simp [h]
theorem Record_is (k : List GKind) (l : List GStep) (kind : ByteArray) (t : Int) {e f : Int} (he : record_CheckKinds k = some e) (hf : record_CheckSteps l = some f) :
    ∃ S, record_Record k l kind t = some (S, twoF e f k kind t) ∧ (twoF e f k kind t ≠ 0 → S = []) ∧
      (twoF e f k kind t = 0 → inB (tumbref2_KindAt k kind) k.length = true ∧ l.length ≤ 1000 ∧ S = recS (valS (nth k (tumbref2_KindAt k kind)) (upS l t))) := by
  unfold record_Record
  rcases ask_is k l kind t he hf with ⟨h1, h2⟩ | ⟨h1, h2, h3, sw, h4, h5⟩
  · rw [h2]
    exact ⟨[], by simp [h1], fun _ => rfl, fun h => absurd h h1⟩
  · rw [h4, h1]
    have hu := upS_len l t
    have hv := valS_len (nth k (tumbref2_KindAt k kind)) (upS l t)
    have hr := recS_len (valS (nth k (tumbref2_KindAt k kind)) (upS l t))
    refine ⟨_, ?_, fun h => absurd rfl h, fun _ => ⟨h2, h3, rfl⟩⟩
    simp only [Option.bind_some, decide_true, Bool.not_true, Bool.false_eq_true, if_false]
    rw [record_is _ (by omega) h5]
    simp only [Option.bind_some]
    unfold slices_Clone_Best
    rw [chkT (by simp; omega)]
    simp
theorem History_is (k : List GKind) (l : List GStep) (kind : ByteArray) (t : Int) {e f : Int} (he : record_CheckKinds k = some e) (hf : record_CheckSteps l = some f) :
    ∃ S, record_History k l kind t = some (S, twoF e f k kind t) ∧ (twoF e f k kind t ≠ 0 → S = []) ∧
      (twoF e f k kind t = 0 → inB (tumbref2_KindAt k kind) k.length = true ∧ l.length ≤ 1000 ∧ S = histS (valS (nth k (tumbref2_KindAt k kind)) (upS l t))) := by
  unfold record_History
  rcases ask_is k l kind t he hf with ⟨h1, h2⟩ | ⟨h1, h2, h3, sw, h4, h5⟩
  · rw [h2]
    exact ⟨[], by simp [h1], fun _ => rfl, fun h => absurd h h1⟩
  · rw [h4, h1]
    have hu := upS_len l t
    refine ⟨_, ?_, fun h => absurd rfl h, fun _ => ⟨h2, h3, rfl⟩⟩
    simp only [Option.bind_some, decide_true, Bool.not_true, Bool.false_eq_true, if_false]
    rw [history_is _ (by omega) h5]
    rfl
/-- The records of some kinds. -/
def allS (k : List GKind) (u : List GStep) : List GBest := k.flatMap fun x => recS (valS x u)
theorem all_loop (sw : List Grecord_swum) (rf : List Int) (u : List GStep) (hu : u.length ≤ 1000) (h : Fol u sw) : ∀ (ys : List GKind) (i : Nat) (x : List GBest), x.length + 1000 * ys.length < 1000000 →
    record_All_l1 (sw, rf) (fun x => some (x, 0)) ys i x = some (x ++ allS ys u, 0)
  | [], _, x, _ => by simp [record_All_l1, allS]
  | y :: ys, i, x, hx => by
    simp only [List.length_cons] at hx
    have hv := valS_len y u
    have hr := recS_len (valS y u)
    rw [record_All_l1, record_is y hu h]
    simp only [Option.bind_some]
    rw [chkT (decide_eq_true (by omega)), all_loop sw rf u hu h ys (i + 1) _ (by rw [List.length_append]; omega)]
    simp [allS]
theorem allRec_loop (l : List GStep) (hl : l.length ≤ 1000) (t : Int) : ∀ (ys : List GKind) (i : Nat) (x : List GBest), x.length + 1000 * ys.length < 1000000 →
    tumbref2_AllRecords_l1 l t (fun x => some x) ys i x = some (x ++ allS ys (upS l t))
  | [], _, x, _ => by simp [tumbref2_AllRecords_l1, allS]
  | y :: ys, i, x, hx => by
    simp only [List.length_cons] at hx
    have hu := upS_len l t
    have hv := valS_len y (upS l t)
    have hr := recS_len (valS y (upS l t))
    rw [tumbref2_AllRecords_l1, recordOf_is y l (by omega) t]
    simp only [Option.bind_some]
    rw [chkT (decide_eq_true (by omega)), allRec_loop l hl t ys (i + 1) _ (by rw [List.length_append]; omega)]
    simp [allS]
theorem All_is (k : List GKind) (l : List GStep) (t : Int) {e f : Int} (he : record_CheckKinds k = some e) (hf : record_CheckSteps l = some f) :
    ∃ S, record_All k l t = some (S, tumblaw2_errs [tumblaw2_errs [e, f], tumblaw2_momentFault t]) ∧ (tumblaw2_errs [tumblaw2_errs [e, f], tumblaw2_momentFault t] ≠ 0 → S = []) ∧
      (tumblaw2_errs [tumblaw2_errs [e, f], tumblaw2_momentFault t] = 0 → l.length ≤ 1000 ∧ tumbref2_AllRecords k l t = some S ∧ S = allS k (upS l t)) := by
  obtain ⟨e', k1, _, k3⟩ := kinds_both k
  have hee : e' = e := by rw [he] at k1; exact (Option.some.inj k1).symm
  subst hee
  obtain ⟨f', h1, _, h3⟩ := steps_both l
  have hff : f' = f := by rw [hf] at h1; exact (Option.some.inj h1).symm
  subst hff
  unfold record_All
  rw [both_is k l he hf, momentR]
  simp only [Option.bind_some, joinR]
  simp only [errs_cons, errs_nil]
  by_cases h : e' = 0
  · by_cases h2 : f' = 0
    · subst h h2
      obtain ⟨hl, hg, ha⟩ := h3 rfl
      have hk := k3 rfl
      simp only [ne_eq, not_true_eq_false, if_false, decide_true, Bool.not_true, Bool.false_eq_true]
      unfold tumblaw2_momentFault tumblaw2_when
      cases hm : tumbref2_Moment t with
      | false => exact ⟨[], by simp, fun _ => rfl, fun h => by simp at h⟩
      | true =>
        obtain ⟨sw, e1, e2⟩ := follow_is l hl hg ha t
        have hu := upS_len l t
        refine ⟨allS k (upS l t), ?_, fun h => by simp at h, fun _ => ⟨hl, ?_, rfl⟩⟩
        · simp only [Bool.not_true, Bool.false_eq_true, if_false, e1, Option.bind_some]
          rw [all_loop sw _ (upS l t) (by omega) e2 k 0 [] (by simp; omega)]
          simp
        · unfold tumbref2_AllRecords
          rw [joinR, allRec_loop l hl t k 0 [] (by simp; omega)]
          simp
    · exact ⟨[], by simp [h, h2], fun _ => rfl, fun h' => by simp [h, h2] at h'⟩
  · exact ⟨[], by simp [h], fun _ => rfl, fun h' => by simp [h] at h'⟩
end Go.Proofs.YtdfcgiddcibhfaaGreatDoor
