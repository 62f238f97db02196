/- Deeds that are sorted and merged. No program stands here but its twins. -/
import Derived.Test.YtpfommakhgkmeaaGreatDoorPDeeds
import Derived.Test.YtpfommakhgkmeaaGreatDoorPSort2
import Derived.Test.YtpfommakhgkmeaaGreatDoorPStr
namespace Go.Proofs.YtpfommakhgkmeaaGreatDoor
open Go
def ltD (x y : GDeed) : Bool := decide (meet_compare x y < 0)
theorem len_d : ∀ n : Fin 13, (bits_Len (IntKind.wrap .u64 (n.val : Int))).isSome = true := by decide +kernel
def ltR (x y : GDeed) : Bool := decide (tumbref2_DeedOrder x y < 0)
theorem stableD_is (l : List GDeed) (hl : l.length ≤ 19) : slices_SortStableFunc_Deed_tumbref2_DeedOrder l = some (isort ltR l) := by
  have hs : slices_insertionSortCmpFunc_Deed_tumbref2_DeedOrder l 0 (l.length : Int) = some (isort ltR l) := by
    unfold slices_insertionSortCmpFunc_Deed_tumbref2_DeedOrder
    simp only [joinR]
    have hins : ∀ (k : List GDeed → Option (List GDeed)) (rp : List GDeed) (x : GDeed) (post : List GDeed), ((rp ++ x :: post).length : Int) = (l.length : Int) → (∀ y, y ∈ rp ∨ y = x ∨ y ∈ post → y ∈ (rp ++ x :: post)) →
        slices_insertionSortCmpFunc_Deed_tumbref2_DeedOrder_l2 0 k (((rp.length : Int) - 0).toNat + 2) (rp.reverse ++ x :: post) (rp.length : Int) = k ((insR ltR x rp).reverse ++ post) := by
      intro k rp x post h1 _
      exact ins_l (fun x y k => k (ltR x y)) ltR k (slices_insertionSortCmpFunc_Deed_tumbref2_DeedOrder_l2 0 k) (fun _ _ _ => rfl) rp x post _ (by omega) (by simp at h1; omega) fun y _ k' => rfl
    cases l with
    | nil => rfl
    | cons x l =>
      have hw : W (0 + 1) = (([x] : List GDeed).length : Int) := rfl
      rw [hw]
      exact isort_l ltR (fun x => some x) (fun k x i => slices_insertionSortCmpFunc_Deed_tumbref2_DeedOrder_l2 0 k ((i - 0).toNat + 2) x i) (slices_insertionSortCmpFunc_Deed_tumbref2_DeedOrder_l1 ((x :: l).length : Int) 0 fun x => some x) ((x :: l).length : Int) (fun _ _ _ => rfl)
        (fun k rp x post h1 h2 => hins k rp x post h1 h2) l [x] _ (by simp only [List.length_cons, List.length_nil]; omega) (by simp only [List.length_cons, List.length_nil]; omega) (by simp only [List.length_cons, List.length_nil] at hl ⊢; omega)
  unfold slices_SortStableFunc_Deed_tumbref2_DeedOrder slices_stableCmpFunc_Deed_tumbref2_DeedOrder
  simp only [joinR]
  rw [slices_stableCmpFunc_Deed_tumbref2_DeedOrder_l1, if_neg (by simp; omega), hs]
  simp only [Option.bind_some]
  rw [slices_stableCmpFunc_Deed_tumbref2_DeedOrder_l2, if_neg (by simp; omega)]
  rfl
theorem ltD_iff (p q : GDeed) : ltD p q = true ↔ p.At < q.At ∨ (p.At = q.At ∧ (cB p.Site q.Site < 0 ∨ (p.Site = q.Site ∧ p.No < q.No))) := by
  unfold ltD
  rw [decide_eq_true_eq, compareD]
  rcases cB_rng p.Site q.Site with h | h | h
  · have hne : p.Site ≠ q.Site := fun e => by rw [e, cB_refl] at h; omega
    simp only [h, hne, false_and, or_false]
    split <;> (try split) <;> (try split) <;> omega
  · have he : p.Site = q.Site := cB_zero h
    simp only [he, cB_refl, true_and, ne_eq, not_true_eq_false, if_false, Int.lt_irrefl, false_or]
    split <;> (try split) <;> (try split) <;> (try split) <;> omega
  · have hne : p.Site ≠ q.Site := fun e => by rw [e, cB_refl] at h; omega
    simp only [h, hne, false_and, or_false]
    split <;> (try split) <;> (try split) <;> omega
theorem ltD_trans (p q r : GDeed) (h1 : ltD p q = true) (h2 : ltD q r = true) : ltD p r = true := by
  rw [ltD_iff] at *
  rcases h1 with h1 | ⟨a1, h1⟩ <;> rcases h2 with h2 | ⟨a2, h2⟩
  · exact .inl (by omega)
  · exact .inl (by omega)
  · exact .inl (by omega)
  · refine .inr ⟨by omega, ?_⟩
    rcases h1 with h1 | ⟨b1, h1⟩ <;> rcases h2 with h2 | ⟨b2, h2⟩
    · exact .inl (cB_trans h1 h2)
    · exact .inl (by rw [← b2]; exact h1)
    · exact .inl (by rw [b1]; exact h2)
    · exact .inr ⟨b1.trans b2, by omega⟩
theorem DAdj.up : ∀ {l : List GDeed}, DAdj l → l.Pairwise fun a b => ltD a b = true
  | [], _ => List.Pairwise.nil
  | [x], _ => List.pairwise_singleton _ _
  | x :: y :: l, h => by
    have h1 := DAdj.up (l := y :: l) (fun d p q r e => h (x :: d) p q r (by rw [e]; rfl))
    have h2 : ltD x y = true := decide_eq_true (h [] x y l rfl)
    refine List.pairwise_cons.2 ⟨fun z hz => ?_, h1⟩
    rcases List.mem_cons.1 hz with rfl | hz
    · exact h2
    · exact ltD_trans _ _ _ h2 ((List.pairwise_cons.1 h1).1 z hz)
theorem up_DAdj {l : List GDeed} (h : l.Pairwise fun a b => ltD a b = true) : DAdj l := by
  intro d x y r e
  subst e
  have h1 := (List.pairwise_append.1 h).2.1
  exact of_decide_eq_true ((List.pairwise_cons.1 h1).1 y List.mem_cons_self)
end Go.Proofs.YtpfommakhgkmeaaGreatDoor
