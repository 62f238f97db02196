/- The timetable, by the program and by the document. No program stands here but its twins. -/
import Derived.Test.YtolmdpjkmjfjdaaGreatDoorPItems
namespace Go.Proofs.YtolmdpjkmjfjdaaGreatDoor
open Go

/-- The heats of an item, k of them from number h on, from a moment on. -/
def hs (y : GItem) : Nat → Int → Int → List GSlot
  | 0, _, _ => []
  | k + 1, h, t => GSlot.mk y.Key h (GWindow.mk t (t + y.Long)) :: hs y k (h + 1) (t + y.Long + y.Gap)
/-- When they are over. -/
def endH (y : GItem) : Nat → Int → Int
  | 0, t => t
  | 1, t => t + y.Long
  | k + 2, t => endH y (k + 1) (t + y.Long + y.Gap)
theorem hs_len (y : GItem) : ∀ k h t, (hs y k h t).length = k
  | 0, _, _ => rfl
  | k + 1, h, t => by simp [hs, hs_len y k]
theorem endH_bounds (y : GItem) (hy : Good y) : ∀ k t, t ≤ endH y k t ∧ endH y k t ≤ t + k * 7200000
  | 0, t => by simp [endH]
  | 1, t => by unfold Good at hy; simp [endH]; omega
  | k + 2, t => by
    have := endH_bounds y hy (k + 1) (t + y.Long + y.Gap)
    unfold Good at hy
    simp only [endH]
    push_cast at this ⊢
    omega
/-- The timetable of items from a moment on. -/
def tt : List GItem → Int → List GSlot
  | [], _ => []
  | y :: ys, t => hs y y.Heats.toNat 1 t ++ tt ys (endH y y.Heats.toNat t + y.Break)
theorem tt_l2 (y : GItem) (hy : Good y) (j2 : List GSlot → Int → Option (List GSlot)) : ∀ (k m : Nat) (x3 : List GSlot) (x4 x5 : Int), y.Heats - x5 + 1 = k → 1 ≤ x5 → k < m → x3.length + k < 1073741824 → 0 ≤ x4 → x4 + k * 7200000 ≤ 4611686018427387904 →
    session_timetable_l2 y j2 m x3 x4 x5 = j2 (x3 ++ hs y k x5 x4) (endH y k x4) := by
  intro k
  induction k with
  | zero =>
    intro m x3 x4 x5 hk h1 hm hr h0 hb
    obtain ⟨m', rfl⟩ : ∃ m', m = m' + 1 := ⟨m - 1, by omega⟩
    rw [session_timetable_l2, if_neg (by simp; omega)]
    simp [hs, endH]
  | succ k ih =>
    intro m x3 x4 x5 hk h1 hm hr h0 hb
    obtain ⟨m', rfl⟩ : ∃ m', m = m' + 1 := ⟨m - 1, by omega⟩
    have hg := hy
    unfold Good at hg
    have w1 : W (x4 + y.Long) = x4 + y.Long := W_in (by omega) (by omega)
    have w2 : W (x4 + y.Long + y.Gap) = x4 + y.Long + y.Gap := W_in (by omega) (by omega)
    have w3 : W (x5 + 1) = x5 + 1 := W_in (by omega) (by omega)
    have hroom : room x3.length = true := by unfold room; simp; omega
    rw [session_timetable_l2, if_pos (by simp; omega)]
    simp only [join_eq]
    rw [chk_pos hroom, w1, w2, w3]
    by_cases hlast : x5 < y.Heats
    · rw [if_pos (decide_eq_true hlast)]
      obtain ⟨k', rfl⟩ : ∃ k', k = k' + 1 := ⟨k - 1, by omega⟩
      rw [ih m' _ _ _ (by omega) (by omega) (by omega) (by simp; omega) (by omega) (by push_cast at hb ⊢; omega)]
      simp [hs, endH]
    · rw [if_neg (by simpa using hlast)]
      have hk0 : k = 0 := by omega
      subst hk0
      rw [ih m' _ _ _ (by omega) (by omega) (by omega) (by simp; omega) (by omega) (by push_cast at hb ⊢; omega)]
      simp [hs, endH]
theorem tt_l1 : ∀ (l : List GItem) (i : Nat) (x1 : List GSlot) (x2 : Int), (∀ x ∈ l, Good x) → l.length ≤ 100 → x1.length + l.length * 60 < 1073741824 → 0 ≤ x2 → x2 + l.length * 435600000 ≤ 4611686018427387904 →
    session_timetable_l1 (fun x => some x) l i x1 x2 = some (x1 ++ tt l x2)
  | [], i, x1, x2, _, _, _, _, _ => by simp [session_timetable_l1, tt]
  | y :: l, i, x1, x2, hg, hl, hr, h0, hb => by
    have hy := hg y List.mem_cons_self
    have hgood := hy
    unfold Good at hgood
    have hk : y.Heats.toNat ≤ 60 := by omega
    simp only [List.length_cons] at hr hb hl
    push_cast at hb
    have hbd := endH_bounds y hy y.Heats.toNat x2
    have w1 : W (endH y y.Heats.toNat x2 + y.Break) = endH y y.Heats.toNat x2 + y.Break := W_in (by omega) (by omega)
    rw [session_timetable_l1]
    simp only [join_eq]
    rw [tt_l2 y hy _ y.Heats.toNat _ x1 x2 1 (by omega) (by omega) (by omega) (by omega) h0 (by omega), w1]
    rw [tt_l1 l (i + 1) _ _ (fun x hx => hg x (List.mem_cons_of_mem _ hx)) (by omega) (by simp [hs_len]; omega) (by omega) (by omega)]
    simp [tt]
theorem timetable_eq (l : List GItem) (t : Int) (hg : ∀ x ∈ l, Good x) (hl : l.length ≤ 100) (h0 : 0 ≤ t) (h1 : t ≤ 345686400000) : session_timetable l t = some (tt l t) := by
  unfold session_timetable
  rw [join_eq, tt_l1 l 0 [] t hg hl (by simp; omega) h0 (by omega)]
  simp
end Go.Proofs.YtolmdpjkmjfjdaaGreatDoor
