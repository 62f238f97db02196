/- Ends, fits, pauses and equal lists. No program stands here but its twins. -/
import Derived.Test.YtolmdpjkmjfjdaaGreatDoorPSlots
namespace Go.Proofs.YtolmdpjkmjfjdaaGreatDoor
open Go

theorem tt_len : ∀ (l : List GItem) (t : Int), (∀ x ∈ l, Good x) → (tt l t).length ≤ l.length * 60
  | [], _, _ => by simp [tt]
  | y :: l, t, hg => by
    have h := tt_len l (endH y y.Heats.toNat t + y.Break) (fun x hx => hg x (List.mem_cons_of_mem _ hx))
    have hy := hg y List.mem_cons_self
    unfold Good at hy
    simp [tt, hs_len]
    omega
/-- When the last slot ends. -/
def lastTo (l : List GSlot) (t : Int) : Int := match l.getLast? with
  | some s => s.Time.To
  | none => t
theorem end_eq (l : List GSlot) (t : Int) (h : l.length < 1073741824) : session_end l t = some (lastTo l t) := by
  unfold session_end
  rcases List.eq_nil_or_concat l with rfl | ⟨pre, s, rfl⟩
  · rfl
  · simp only [List.concat_eq_append] at h ⊢
    have hp : pre.length < 1073741824 := by simp at h; omega
    rw [if_neg (by simp; omega), chk_pos (inB_last pre s hp), nth_last pre s hp]
    simp [lastTo]
end Go.Proofs.YtolmdpjkmjfjdaaGreatDoor
