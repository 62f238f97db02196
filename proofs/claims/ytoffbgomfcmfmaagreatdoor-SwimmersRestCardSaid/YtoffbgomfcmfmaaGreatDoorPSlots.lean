/- The document's slots are the timetable. No program stands here but its twins. -/
import Derived.Test.YtoffbgomfcmfmaaGreatDoorPTime
namespace Go.Proofs.YtoffbgomfcmfmaaGreatDoor
open Go

theorem nth_last {α : Type} [Inhabited α] (xs : List α) (s : α) (h : xs.length < 1073741824) : nth (xs ++ [s]) (W (((xs ++ [s]).length : Int) - 1)) = s := by
  have w : W (((xs ++ [s]).length : Int) - 1) = (xs.length : Int) := by
    simp only [List.length_append, List.length_singleton]
    rw [W_in (by push_cast; omega) (by push_cast; omega)]
    push_cast; omega
  rw [w]
  unfold nth
  rw [Int.toNat_natCast]
  simp [List.getD]
theorem inB_last {α : Type} (xs : List α) (s : α) (h : xs.length < 1073741824) : inB (W (((xs ++ [s]).length : Int) - 1)) (xs ++ [s]).length = true := by
  have w : W (((xs ++ [s]).length : Int) - 1) = (xs.length : Int) := by
    simp only [List.length_append, List.length_singleton]
    rw [W_in (by push_cast; omega) (by push_cast; omega)]
    push_cast; omega
  rw [w]
  exact inB_iff.2 ⟨by omega, by simp; omega⟩
theorem hs_last (y : GItem) : ∀ k h t, ∃ pre s, hs y (k + 1) h t = pre ++ [s] ∧ s.Time.To = endH y (k + 1) t
  | 0, h, t => ⟨[], _, rfl, rfl⟩
  | k + 1, h, t => by
    obtain ⟨pre, s, h1, h2⟩ := hs_last y k (h + 1) (t + y.Long + y.Gap)
    exact ⟨_ :: pre, s, by rw [hs, h1]; rfl, by rw [h2]; rfl⟩
/-- Where the next heat begins. -/
def Starts (l : List GItem) (from_ : Int) (y : GItem) (i : Nat) (x2 : List GSlot) (x3 T : Int) : Prop :=
  (x2 = [] ∧ T = from_) ∨ ∃ pre s, x2 = pre ++ [s] ∧ T = s.Time.To + (if x3 = 1 then (nth l (W ((i : Int) - 1))).Break else y.Gap) ∧ (x3 = 1 → inB (W ((i : Int) - 1)) l.length = true)
theorem slots_l2 (l : List GItem) (from_ : Int) (y : GItem) (i : Nat) (hy : Good y) (j2 : List GSlot → Option (List GSlot)) : ∀ (k m : Nat) (x2 : List GSlot) (x3 T : Int), y.Heats - x3 + 1 = k → 1 ≤ x3 → k < m → x2.length + k < 1073741824 → 0 ≤ T →
    T + k * 7200000 ≤ 4611686018427387904 → (0 < k → Starts l from_ y i x2 x3 T) → tumbref2_SlotsOf_l2 y i l from_ j2 m x2 x3 = j2 (x2 ++ hs y k x3 T) := by
  intro k
  induction k with
  | zero =>
    intro m x2 x3 T hk h1 hm hr h0 hb _
    obtain ⟨m', rfl⟩ : ∃ m', m = m' + 1 := ⟨m - 1, by omega⟩
    rw [tumbref2_SlotsOf_l2, if_neg (by simp; omega)]
    simp [hs]
  | succ k ih =>
    intro m x2 x3 T hk h1 hm hr h0 hb hst
    obtain ⟨m', rfl⟩ : ∃ m', m = m' + 1 := ⟨m - 1, by omega⟩
    have hg := hy
    unfold Good at hg
    push_cast at hb
    have w1 : W (T + y.Long) = T + y.Long := W_in (by omega) (by omega)
    have w3 : W (x3 + 1) = x3 + 1 := W_in (by omega) (by omega)
    have hroom : room x2.length = true := by unfold room; simp; omega
    have step : Chk (room x2.length) (tumbref2_SlotsOf_l2 y i l from_ j2 m' (x2 ++ [(GSlot.mk y.Key x3 (GWindow.mk T (W (T + y.Long))))]) (W (x3 + 1))) = j2 (x2 ++ hs y (k + 1) x3 T) := by
      rw [chk_pos hroom, w1, w3, ih m' _ (x3 + 1) (T + y.Long + y.Gap) (by omega) (by omega) (by omega) (by simp; omega) (by omega) (by omega)]
      · simp [hs]
      · intro _
        refine .inr ⟨x2, _, rfl, ?_, fun h => by omega⟩
        rw [if_neg (by omega)]
    rw [tumbref2_SlotsOf_l2, if_pos (by simp; omega)]
    simp only [join_eq]
    rcases hst (by omega) with ⟨rfl, rfl⟩ | ⟨pre, s, rfl, hT, hin⟩
    · rw [if_neg (by simp)]
      exact step
    · have hp : pre.length < 1073741824 := by simp at hr; omega
      rw [if_pos (by simp), chk_pos (inB_last pre s hp), nth_last pre s hp]
      by_cases h3 : x3 = 1
      · rw [if_pos (decide_eq_true h3), chk_pos (inB_last pre s hp), chk_pos (hin h3)]
        rw [if_pos h3] at hT
        rw [show W (s.Time.To + (nth l (W ((i : Int) - 1))).Break) = T by rw [← hT]; exact W_in (by omega) (by omega)]
        exact step
      · rw [if_neg (by simpa using h3)]
        rw [if_neg h3] at hT
        rw [show W (s.Time.To + y.Gap) = T by rw [← hT]; exact W_in (by omega) (by omega)]
        exact step
theorem slots_l1 (l : List GItem) (from_ : Int) : ∀ (ys dn : List GItem) (x1 : List GSlot) (T : Int), l = dn ++ ys → l.length ≤ 100 → (∀ x ∈ ys, Good x) →
    ((x1 = [] ∧ dn = [] ∧ T = from_) ∨ ∃ pre s d pr, x1 = pre ++ [s] ∧ dn = d ++ [pr] ∧ T = s.Time.To + pr.Break) → x1.length + ys.length * 60 < 1073741824 → 0 ≤ T → T + ys.length * 435600000 ≤ 4611686018427387904 →
    tumbref2_SlotsOf_l1 l from_ (fun x => some x) ys dn.length x1 = some (x1 ++ tt ys T) := by
  intro ys
  induction ys with
  | nil => intro dn x1 T _ _ _ _ _ _ _; simp [tumbref2_SlotsOf_l1, tt]
  | cons y ys ih =>
    intro dn x1 T hl h100 hg hst hr h0 hb
    have hy := hg y List.mem_cons_self
    have hgood := hy
    unfold Good at hgood
    have hk : y.Heats.toNat ≤ 60 := by omega
    simp only [List.length_cons] at hr hb
    push_cast at hb
    have hbd := endH_bounds y hy y.Heats.toNat T
    have hlen : dn.length + ys.length + 1 ≤ 100 := by rw [hl] at h100; simp at h100; omega
    rw [tumbref2_SlotsOf_l1]
    simp only [join_eq]
    rw [slots_l2 l from_ y dn.length hy _ y.Heats.toNat _ x1 1 T (by omega) (by omega) (by omega) (by omega) h0 (by omega)]
    · obtain ⟨k, hk1⟩ : ∃ k, y.Heats.toNat = k + 1 := ⟨y.Heats.toNat - 1, by omega⟩
      obtain ⟨pre, s, e1, e2⟩ := hs_last y k 1 T
      have h := ih (dn ++ [y]) (x1 ++ hs y y.Heats.toNat 1 T) (endH y y.Heats.toNat T + y.Break) (by rw [hl]; simp) h100 (fun x hx => hg x (List.mem_cons_of_mem _ hx)) ?_ (by simp [hs_len]; omega) (by omega) (by omega)
      · rw [List.length_append, List.length_singleton] at h
        rw [h]
        simp [tt]
      · refine .inr ⟨x1 ++ pre, s, dn, y, ?_, rfl, ?_⟩
        · rw [hk1, e1]; simp
        · rw [hk1, ← e2]
    · intro _
      rcases hst with ⟨rfl, rfl, rfl⟩ | ⟨pre, s, d, pr, rfl, rfl, hT⟩
      · exact .inl ⟨rfl, rfl⟩
      · have w : W (((d ++ [pr]).length : Int) - 1) = (d.length : Int) := by
          simp only [List.length_append, List.length_singleton] at hlen ⊢
          rw [W_in (by push_cast; omega) (by push_cast; omega)]
          push_cast; omega
        refine .inr ⟨pre, s, rfl, ?_, fun _ => ?_⟩
        · rw [if_pos rfl, hT, w, hl]
          unfold nth
          rw [Int.toNat_natCast]
          simp [List.getD]
        · rw [w, hl]
          exact inB_iff.2 ⟨by omega, by simp; omega⟩
theorem slots_eq (l : List GItem) (t : Int) (hg : ∀ x ∈ l, Good x) (hl : l.length ≤ 100) (h0 : 0 ≤ t) (h1 : t ≤ 345686400000) : tumbref2_SlotsOf l t = some (tt l t) := by
  unfold tumbref2_SlotsOf
  rw [join_eq]
  have h := slots_l1 l t l [] [] t rfl hl hg (.inl ⟨rfl, rfl, rfl⟩) (by simp; omega) h0 (by omega)
  simpa using h
end Go.Proofs.YtoffbgomfcmfmaaGreatDoor
