/- How many items fit. No program stands here but its twins. -/
import Derived.Test.YtolmdpjkmjfjdaaGreatDoorPBeginT
namespace Go.Proofs.YtolmdpjkmjfjdaaGreatDoor
open Go

theorem lastTo_app (a b : List GSlot) (t : Int) : lastTo (a ++ b) t = lastTo b (lastTo a t) := by
  unfold lastTo
  rcases List.eq_nil_or_concat b with rfl | ⟨pre, s, rfl⟩
  · simp
  · simp [← List.append_assoc]
/-- Where the next item begins. -/
def nt : List GItem → Int → Int
  | [], t => t
  | y :: ys, t => nt ys (endH y y.Heats.toNat t + y.Break)
theorem tt_app : ∀ (a b : List GItem) (t : Int), tt (a ++ b) t = tt a t ++ tt b (nt a t)
  | [], _, _ => rfl
  | y :: a, b, t => by simp [tt, nt, tt_app a b]
theorem lastTo_hs (y : GItem) (k : Nat) (h t u : Int) : lastTo (hs y (k + 1) h t) u = endH y (k + 1) t := by
  obtain ⟨pre, s, e1, e2⟩ := hs_last y k h t
  rw [e1, ← e2]
  simp [lastTo]
theorem last_le_nt : ∀ (l : List GItem) (t : Int), (∀ x ∈ l, Good x) → t ≤ nt l t ∧ lastTo (tt l t) t ≤ nt l t
  | [], t, _ => ⟨Int.le_refl _, Int.le_refl _⟩
  | y :: l, t, hg => by
    have hy := hg y List.mem_cons_self
    have hgood := hy
    unfold Good at hgood
    have hb := endH_bounds y hy y.Heats.toNat t
    obtain ⟨h1, h2⟩ := last_le_nt l (endH y y.Heats.toNat t + y.Break) (fun x hx => hg x (List.mem_cons_of_mem _ hx))
    obtain ⟨k, hk⟩ : ∃ k, y.Heats.toNat = k + 1 := ⟨y.Heats.toNat - 1, by omega⟩
    simp only [nt, tt]
    refine ⟨by omega, ?_⟩
    rw [lastTo_app, hk, lastTo_hs, ← hk]
    cases hl : tt l (endH y y.Heats.toNat t + y.Break) with
    | nil => simp only [lastTo, List.getLast?_nil]; omega
    | cons a r =>
      have e : ∀ u v, lastTo (a :: r) u = lastTo (a :: r) v := fun u v => by
        unfold lastTo
        cases hx : (a :: r).getLast? with
        | none => simp at hx
        | some _ => rfl
      rw [hl] at h2
      rw [e _ (endH y y.Heats.toNat t + y.Break)]
      exact h2
/-- An item more ends no sooner. -/
theorem ends_grow (a : List GItem) (y : GItem) (t : Int) (hg : ∀ x ∈ a, Good x) (hy : Good y) : lastTo (tt a t) t ≤ lastTo (tt (a ++ [y]) t) t := by
  have h1 := (last_le_nt a t hg).2
  have hgood := hy
  unfold Good at hgood
  have hb := endH_bounds y hy y.Heats.toNat (nt a t)
  obtain ⟨k, hk⟩ : ∃ k, y.Heats.toNat = k + 1 := ⟨y.Heats.toNat - 1, by omega⟩
  rw [tt_app, lastTo_app]
  simp only [tt, List.append_nil]
  rw [hk, lastTo_hs, ← hk]
  omega
def ends (l : List GItem) (t : Int) (n : Nat) : Int := lastTo (tt (l.take n) t) t
theorem take_next {α : Type} (dn ys : List α) (y : α) : (dn ++ y :: ys).take (dn.length + 1) = dn ++ [y] := by
  rw [List.take_length_add_append]; simp
def fitN (l : List GItem) (t to_ : Int) : List GItem → Nat → Nat
  | [], n => n
  | _ :: ys, n => if ends l t (n + 1) ≤ to_ then fitN l t to_ ys (n + 1) else n
theorem ends_step (l dn ys : List GItem) (y : GItem) (t : Int) (hl : l = dn ++ y :: ys) (hg : ∀ x ∈ l, Good x) : ends l t dn.length ≤ ends l t (dn.length + 1) := by
  unfold ends
  subst hl
  rw [take_next, List.take_left' rfl]
  exact ends_grow dn y t (fun x hx => hg x (by simp [hx])) (hg y (by simp))
end Go.Proofs.YtolmdpjkmjfjdaaGreatDoor
