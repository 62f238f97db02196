/- The program's live timetable is the reference's. No program stands here but its twins. -/
import Derived.Test.YtefddponhjhdgaaDoorPHeld
namespace Go.Proofs.YtefddponhjhdgaaDoor
open Go
theorem W_per (n : Int) : ∃ k : Int, W n = n + 18446744073709551616 * k := by
  rw [W_eq]
  split
  · exact ⟨-(n / 18446744073709551616) - 1, by omega⟩
  · exact ⟨-(n / 18446744073709551616), by omega⟩
theorem W_shift (n k : Int) : W (n + 18446744073709551616 * k) = W n := by
  rw [W_eq, W_eq]
  have : (n + 18446744073709551616 * k) % 18446744073709551616 = n % 18446744073709551616 := by omega
  rw [this]
theorem W_addr (x y : Int) : W (x + W y) = W (x + y) := by
  obtain ⟨k, h⟩ := W_per y
  rw [h, show x + (y + 18446744073709551616 * k) = x + y + 18446744073709551616 * k by omega, W_shift]
theorem W_subl (x y : Int) : W (W x - y) = W (x - y) := by
  obtain ⟨k, h⟩ := W_per x
  rw [h, show x + 18446744073709551616 * k - y = x - y + 18446744073709551616 * k by omega, W_shift]
/-- When a heat began, by the last word on it. -/
def lastAt (item : ByteArray) (h : Int) : List GHeld → Option Int
  | [] => none
  | p :: l => match lastAt item h l with
    | some a => some a
    | none => if p.Item = item ∧ p.Heat = h then some p.At else none
theorem lastAt_mem (item : ByteArray) (h : Int) : ∀ (l : List GHeld) (a : Int), lastAt item h l = some a → ∃ p ∈ l, p.At = a
  | [], a, e => by cases e
  | p :: l, a, e => by
    rw [lastAt] at e
    cases hq : lastAt item h l with
    | some b => rw [hq] at e; cases e; obtain ⟨q, h1, h2⟩ := lastAt_mem item h l a hq; exact ⟨q, List.mem_cons_of_mem _ h1, h2⟩
    | none =>
      rw [hq] at e
      simp only at e
      split at e
      · cases e; exact ⟨p, List.mem_cons_self, rfl⟩
      · cases e
theorem maps_ok (j : List (Gsession_heat × Bool) → List (Gsession_heat × Int) → Option (List GSlot × List GSlot)) : ∀ (l : List GHeld) (i : Nat) (m1 : List (Gsession_heat × Bool)) (m2 : List (Gsession_heat × Int)),
    ∃ n1 n2, session_live_l1 j l i m1 m2 = j n1 n2 ∧ (∀ item h, mgetD n1 ⟨item, h⟩ false = ((lastAt item h l).isSome || mgetD m1 ⟨item, h⟩ false)) ∧ (∀ item h, mgetD n2 ⟨item, h⟩ 0 = (lastAt item h l).getD (mgetD m2 ⟨item, h⟩ 0))
  | [], i, m1, m2 => ⟨m1, m2, rfl, fun _ _ => by simp [lastAt], fun _ _ => by simp [lastAt]⟩
  | p :: l, i, m1, m2 => by
    obtain ⟨n1, n2, e, h1, h2⟩ := maps_ok j l (i + 1) (mput m1 ⟨p.Item, p.Heat⟩ true) (mput m2 ⟨p.Item, p.Heat⟩ p.At)
    refine ⟨n1, n2, by rw [session_live_l1]; exact e, fun item h => ?_, fun item h => ?_⟩
    · rw [h1, mgetD_put, lastAt]
      cases lastAt item h l with
      | some a => simp
      | none =>
        by_cases hc : p.Item = item ∧ p.Heat = h
        · simp [hc]
        · rw [if_neg hc, if_neg (fun g => hc (by simp only [Gsession_heat.mk.injEq] at g; exact ⟨g.1.symm, g.2.symm⟩))]
    · rw [h2, mgetD_put, lastAt]
      cases lastAt item h l with
      | some a => simp
      | none =>
        by_cases hc : p.Item = item ∧ p.Heat = h
        · simp [hc]
        · rw [if_neg hc, if_neg (fun g => hc (by simp only [Gsession_heat.mk.injEq] at g; exact ⟨g.1.symm, g.2.symm⟩))]
/-- Heats one behind the other, with breaks that are not long. -/
def Ch : Int → List GSlot → Prop
  | _, [] => True
  | p, s :: l => p ≤ s.Time.From ∧ s.Time.From ≤ p + 3600000 ∧ s.Time.From ≤ s.Time.To ∧ s.Time.To ≤ s.Time.From + 3600000 ∧ Ch s.Time.To l
theorem ch_hs (y : GItem) (hy : Good y) (rest : List GSlot) : ∀ (k : Nat) (h t p : Int), p ≤ t → t ≤ p + 3600000 → Ch (endH y (k + 1) t) rest → Ch p (hs y (k + 1) h t ++ rest)
  | 0, h, t, p, h1, h2, h3 => by
    unfold Good at hy
    simp only [hs, List.cons_append, List.nil_append, Ch]
    exact ⟨h1, h2, by omega, by omega, h3⟩
  | k + 1, h, t, p, h1, h2, h3 => by
    have hy' := hy
    unfold Good at hy
    rw [hs, List.cons_append, Ch]
    exact ⟨h1, h2, by simp only; omega, by simp only; omega, ch_hs y hy' rest k (h + 1) (t + y.Long + y.Gap) (t + y.Long) (by omega) (by omega) h3⟩
theorem ch_tt : ∀ (l : List GItem) (t p : Int), (∀ x ∈ l, Good x) → p ≤ t → t ≤ p + 3600000 → Ch p (tt l t)
  | [], _, _, _, _, _ => trivial
  | y :: ys, t, p, hg, h1, h2 => by
    have hy := hg y List.mem_cons_self
    have hy' := hy
    unfold Good at hy'
    rw [tt]
    obtain ⟨k, hk⟩ : ∃ k, y.Heats.toNat = k + 1 := ⟨y.Heats.toNat - 1, by omega⟩
    rw [hk]
    exact ch_hs y hy _ k 1 t p h1 h2 (ch_tt ys _ _ (fun x hx => hg x (List.mem_cons_of_mem _ hx)) (by omega) (by omega))
end Go.Proofs.YtefddponhjhdgaaDoor
