/- What is asked of records: the program's answers are the reference's. No program stands here but its twins. -/
import Derived.Test.YtikobclhcfiadaaGreatDoorPRecH
import Derived.Test.YtikobclhcfiadaaGreatDoorPErrs
namespace Go.Proofs.YtikobclhcfiadaaGreatDoor
open Go
theorem checkSwum_is (y : GStep) {g : Int} (hg : record_checkStep y = some g) : record_checkSwum y = some (tumblaw2_errs [g, tumblaw2_when (!decide (y.Kind = 1)) 4]) := by
  unfold record_checkSwum
  rw [hg]
  simp only [Option.bind_some, errs_cons, errs_nil, tumblaw2_when]
  by_cases h : g = 0 <;> by_cases h1 : y.Kind = 1 <;> simp [h, h1]
theorem for_is (k : List GKind) (hk : k.length ≤ 1000) (y : GStep) {e g : Int} (he : record_CheckKinds k = some e) (hg : record_checkStep y = some g) :
    record_For k y = some (if tumblaw2_errs [e, g, tumblaw2_when (!decide (y.Kind = 1)) 4] = 0 then (k.filter fun x => record_isFor x y).map (·.Key) else [], tumblaw2_errs [e, g, tumblaw2_when (!decide (y.Kind = 1)) 4]) := by
  unfold record_For
  rw [he, checkSwum_is y hg]
  simp only [Option.bind_some, joinR]
  rw [app_0 (fun x : GKind => record_isFor x y) (·.Key) (fun x => some (x, (0 : Int))) (record_For_l1 y fun x => some (x, 0)) (fun _ _ => rfl) k (by omega) (fun _ _ _ _ => rfl)]
  simp only [errs_cons e]
  by_cases h : e = 0
  · by_cases h2 : tumblaw2_errs [g, tumblaw2_when (!decide (y.Kind = 1)) 4] = 0 <;> simp [h, h2]
  · simp [h]
theorem kindAt_both (k : List GKind) (key : ByteArray) : record_kindAt k key = tumbref2_KindAt k key := by
  have : ∀ (l : List GKind) (i : Nat), slices_IndexFunc_Kind_record_kindAt_c1_l1 key (-1) l i = slices_IndexFunc_Kind_tumbref2_KindAt_c1_l1 key (-1) l i := by
    intro l
    induction l with
    | nil => intro _; rfl
    | cons y l ih =>
      intro i
      rw [slices_IndexFunc_Kind_record_kindAt_c1_l1, slices_IndexFunc_Kind_tumbref2_KindAt_c1_l1, ih]
      rfl
  exact this k 0
theorem kindAt_in (k : List GKind) (key : ByteArray) (h : ¬ tumbref2_KindAt k key < 0) : inB (tumbref2_KindAt k key) k.length = true := by
  have hx : tumbref2_KindAt k key = slices_IndexFunc_Kind_tumbref2_KindAt_c1_l1 key (-1) k 0 := rfl
  rw [hx] at h ⊢
  rcases find_l (fun y k => k (tumbref2_KindAt_c1 y key)) (fun y => tumbref2_KindAt_c1 y key) (-1) id (slices_IndexFunc_Kind_tumbref2_KindAt_c1_l1 key (-1)) (fun _ => rfl) (fun _ _ _ => rfl) k 0 (fun _ _ _ => rfl) with ⟨pre, y, post, e, _, _, g3⟩ | ⟨_, g2⟩
  · rw [g3, e]
    exact inB_iff.2 ⟨by show (0 : Int) ≤ ((0 + pre.length : Nat) : Int); omega, by show ((0 + pre.length : Nat) : Int) < _; simp; omega⟩
  · rw [g2] at h; omega
/-- What is asked of a kind. -/
def twoF (e f : Int) (k : List GKind) (kind : ByteArray) (t : Int) : Int := if tumblaw2_errs [e, f] = 0 then tumblaw2_errs [tumblaw2_kindFault k kind, tumblaw2_momentFault t] else tumblaw2_errs [e, f]
theorem ask_is (k : List GKind) (l : List GStep) (kind : ByteArray) (t : Int) {e f : Int} (he : record_CheckKinds k = some e) (hf : record_CheckSteps l = some f) :
    (twoF e f k kind t ≠ 0 ∧ record_ask k l kind t = some (GKind.mk k_empty k_empty [] 0 0, [], twoF e f k kind t)) ∨
    (twoF e f k kind t = 0 ∧ inB (tumbref2_KindAt k kind) k.length = true ∧ l.length ≤ 1000 ∧ ∃ sw, record_ask k l kind t = some (nth k (tumbref2_KindAt k kind), sw, 0) ∧ Fol (upS l t) sw) := by
  obtain ⟨f', h1, _, h3⟩ := steps_both l
  have hff : f' = f := by rw [hf] at h1; exact (Option.some.inj h1).symm
  subst hff
  unfold record_ask
  rw [both_is k l he hf, kindAt_both, momentR]
  simp only [Option.bind_some]
  unfold twoF
  simp only [errs_cons, errs_nil]
  by_cases h : e = 0
  · by_cases h2 : f' = 0
    · subst h h2
      simp only [ne_eq, not_true_eq_false, if_false, if_true, decide_true, Bool.not_true, Bool.false_eq_true]
      unfold tumblaw2_kindFault tumblaw2_momentFault tumblaw2_when
      by_cases hi : tumbref2_KindAt k kind < 0
      · left
        simp [hi]
      · cases hm : tumbref2_Moment t with
        | false => left; simp [hi]
        | true =>
          right
          have hin := kindAt_in k kind hi
          obtain ⟨hl, hg, ha⟩ := h3 rfl
          obtain ⟨sw, e1, e2⟩ := follow_is l hl hg ha t
          refine ⟨by simp [hi], hin, hl, sw, ?_, e2⟩
          simp [hi, e1, chkT hin]
    · left; simp [h, h2]
  · left; simp [h]
theorem Record_is (k : List GKind) (l : List GStep) (kind : ByteArray) (t : Int) {e f : Int} (he : record_CheckKinds k = some e) (hf : record_CheckSteps l = some f) :
    ∃ S, record_Record k l kind t = some (S, twoF e f k kind t) ∧ (twoF e f k kind t ≠ 0 → S = []) ∧
      (twoF e f k kind t = 0 → inB (tumbref2_KindAt k kind) k.length = true ∧ l.length ≤ 1000 ∧ S = recS (valS (nth k (tumbref2_KindAt k kind)) (upS l t))) := by
  unfold record_Record
  rcases ask_is k l kind t he hf with ⟨h1, h2⟩ | ⟨h1, h2, h3, sw, h4, h5⟩
  · rw [h2]
    exact ⟨[], by simp [h1], fun _ => rfl, fun h => absurd h h1⟩
  · rw [h4, h1]
    have hu := upS_len l t
    have hv := valS_len (nth k (tumbref2_KindAt k kind)) (upS l t)
    have hr := recS_len (valS (nth k (tumbref2_KindAt k kind)) (upS l t))
    refine ⟨_, ?_, fun h => absurd rfl h, fun _ => ⟨h2, h3, rfl⟩⟩
    simp only [Option.bind_some, decide_true, Bool.not_true, Bool.false_eq_true, if_false]
    rw [record_is _ (by omega) h5]
    simp only [Option.bind_some]
    unfold slices_Clone_Best
    rw [chkT (by simp; omega)]
    simp
theorem History_is (k : List GKind) (l : List GStep) (kind : ByteArray) (t : Int) {e f : Int} (he : record_CheckKinds k = some e) (hf : record_CheckSteps l = some f) :
    ∃ S, record_History k l kind t = some (S, twoF e f k kind t) ∧ (twoF e f k kind t ≠ 0 → S = []) ∧
      (twoF e f k kind t = 0 → inB (tumbref2_KindAt k kind) k.length = true ∧ l.length ≤ 1000 ∧ S = histS (valS (nth k (tumbref2_KindAt k kind)) (upS l t))) := by
  unfold record_History
  rcases ask_is k l kind t he hf with ⟨h1, h2⟩ | ⟨h1, h2, h3, sw, h4, h5⟩
  · rw [h2]
    exact ⟨[], by simp [h1], fun _ => rfl, fun h => absurd h h1⟩
  · rw [h4, h1]
    have hu := upS_len l t
    refine ⟨_, ?_, fun h => absurd rfl h, fun _ => ⟨h2, h3, rfl⟩⟩
    simp only [Option.bind_some, decide_true, Bool.not_true, Bool.false_eq_true, if_false]
    rw [history_is _ (by omega) h5]
    rfl
/-- The records of some kinds. -/
def allS (k : List GKind) (u : List GStep) : List GBest := k.flatMap fun x => recS (valS x u)
end Go.Proofs.YtikobclhcfiadaaGreatDoor
