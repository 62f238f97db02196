/- The pairs of items in which somebody swims in both: the program's are the reference's. No program stands here but its twins. -/
import Derived.Test.YtolmdpjkmjfjdaaGreatDoorPCallsT
namespace Go.Proofs.YtolmdpjkmjfjdaaGreatDoor
open Go
/-! ### How many there are -/
theorem nodup_len {α : Type} [DecidableEq α] : ∀ (P Q : List α), P.Nodup → (∀ x ∈ P, x ∈ Q) → P.length ≤ Q.length
  | [], _, _, _ => by simp
  | p :: P, Q, h, hq => by
    rw [List.nodup_cons] at h
    have hp := hq p (by simp)
    have := nodup_len P (Q.erase p) h.2 fun x hx => (List.mem_erase_of_ne (fun e => h.1 (by rw [← e]; exact hx))).2 (hq x (List.mem_cons_of_mem _ hx))
    rw [List.length_erase_of_mem hp] at this
    have : 0 < Q.length := List.length_pos_of_mem hp
    simp only [List.length_cons]
    omega
def tri : Nat → Nat
  | 0 => 0
  | n + 1 => n + tri n
def cnt (K : List ByteArray) : List ByteArray → Nat
  | [] => 0
  | a :: A => (K.filter fun b => decide (cB a b < 0)).length + cnt K A
theorem cnt_cons (k : ByteArray) (K : List ByteArray) : ∀ A : List ByteArray, cnt (k :: K) A = cnt K A + (A.filter fun a => decide (cB a k < 0)).length
  | [] => rfl
  | a :: A => by
    have ih := cnt_cons k K A
    unfold cnt
    rw [ih, List.filter_cons, List.filter_cons]
    by_cases h : cB a k < 0
    · rw [if_pos (decide_eq_true h), if_pos (decide_eq_true h), List.length_cons, List.length_cons]
      omega
    · rw [if_neg (by simpa using h), if_neg (by simpa using h)]
      omega
theorem two_side (k : ByteArray) : ∀ K : List ByteArray, (K.filter fun b => decide (cB k b < 0)).length + (K.filter fun a => decide (cB a k < 0)).length ≤ K.length
  | [] => by simp
  | a :: K => by
    have ih := two_side k K
    have hf := cB_flip k a
    rw [List.filter_cons, List.filter_cons]
    by_cases h1 : cB k a < 0
    · have h2 : ¬ cB a k < 0 := by omega
      rw [if_pos (decide_eq_true h1), if_neg (by simpa using h2)]
      simp only [List.length_cons]
      omega
    · rw [if_neg (by simpa using h1)]
      split <;> simp only [List.length_cons] <;> omega
theorem cnt_tri : ∀ K : List ByteArray, cnt K K ≤ tri K.length
  | [] => by simp [cnt]
  | k :: K => by
    have ih := cnt_tri K
    have h2 := two_side k K
    have h3 : ((k :: K).filter fun b => decide (cB k b < 0)).length = (K.filter fun b => decide (cB k b < 0)).length := by
      rw [List.filter_cons, if_neg (by rw [cB_refl]; simp)]
    rw [cnt, h3, cnt_cons]
    simp only [List.length_cons, tri]
    omega
end Go.Proofs.YtolmdpjkmjfjdaaGreatDoor
