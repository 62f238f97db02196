/- Ends, fits, pauses and equal lists. No program stands here but its twins. -/
import Derived.Test.YtoffbgomfcmfmaaGreatDoorPSlots
namespace Go.Proofs.YtoffbgomfcmfmaaGreatDoor
open Go

theorem eq_loop_slot (l : List GSlot) : ∀ (ys dn : List GSlot), l = dn ++ ys → slices_Equal_Slot_l1 l (some true) ys dn.length = some true := by
  intro ys
  induction ys with
  | nil => intro dn _; rfl
  | cons y ys ih =>
    intro dn hl
    have hc : inB (dn.length : Int) l.length = true := inB_iff.2 ⟨by omega, by subst hl; simp; omega⟩
    have hn : nth l (dn.length : Int) = y := by
      subst hl
      unfold nth
      rw [Int.toNat_natCast]
      simp [List.getD]
    rw [slices_Equal_Slot_l1, chk_pos hc, hn, if_neg (by simp)]
    have h := ih (dn ++ [y]) (by rw [hl]; simp)
    rw [List.length_append, List.length_singleton] at h
    exact h
theorem equal_slot (l : List GSlot) : slices_Equal_Slot l l = some true := by
  unfold slices_Equal_Slot
  rw [if_neg (by simp), join_eq]
  exact eq_loop_slot l l [] rfl
theorem tt_len : ∀ (l : List GItem) (t : Int), (∀ x ∈ l, Good x) → (tt l t).length ≤ l.length * 60
  | [], _, _ => by simp [tt]
  | y :: l, t, hg => by
    have h := tt_len l (endH y y.Heats.toNat t + y.Break) (fun x hx => hg x (List.mem_cons_of_mem _ hx))
    have hy := hg y List.mem_cons_self
    unfold Good at hy
    simp [tt, hs_len]
    omega
/-- When the last slot ends. -/
def lastTo (l : List GSlot) (t : Int) : Int := match l.getLast? with
  | some s => s.Time.To
  | none => t
theorem end_eq (l : List GSlot) (t : Int) (h : l.length < 1073741824) : session_end l t = some (lastTo l t) := by
  unfold session_end
  rcases List.eq_nil_or_concat l with rfl | ⟨pre, s, rfl⟩
  · rfl
  · simp only [List.concat_eq_append] at h ⊢
    have hp : pre.length < 1073741824 := by simp at h; omega
    rw [if_neg (by simp; omega), chk_pos (inB_last pre s hp), nth_last pre s hp]
    simp [lastTo]
theorem endOf_loop : ∀ (l : List GSlot) (i : Nat) (t : Int), tumbref2_EndOf_l1 (fun x => some x) l i t = some (lastTo l t)
  | [], _, _ => rfl
  | s :: l, i, t => by
    rw [tumbref2_EndOf_l1, endOf_loop l (i + 1)]
    cases l with
    | nil => rfl
    | cons a r => simp [lastTo, List.getLast?_cons_cons]; rfl
theorem endOf_eq (l : List GItem) (t : Int) (hg : ∀ x ∈ l, Good x) (hl : l.length ≤ 100) (h0 : 0 ≤ t) (h1 : t ≤ 345686400000) : tumbref2_EndOf l t = some (lastTo (tt l t) t) := by
  unfold tumbref2_EndOf
  rw [slots_eq l t hg hl h0 h1]
  simp only [Option.bind_some, join_eq]
  exact endOf_loop _ 0 t
end Go.Proofs.YtoffbgomfcmfmaaGreatDoor
