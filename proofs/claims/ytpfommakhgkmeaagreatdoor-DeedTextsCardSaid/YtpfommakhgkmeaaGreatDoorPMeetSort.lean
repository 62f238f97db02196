/- Entries of a race that are sorted by who they are of. No program stands here but its twins. -/
import Derived.Test.YtpfommakhgkmeaaGreatDoorPDeedSort
namespace Go.Proofs.YtpfommakhgkmeaaGreatDoor
open Go
def ltW (x y : GDeed) : Bool := decide (state_entered_c1 x y < 0)
theorem isortW_is (l : List GDeed) (hl : l.length ≤ 12) : slices_insertionSortCmpFunc_Deed_state_entered_c1 l 0 (l.length : Int) = some (isort ltW l) := by
  unfold slices_insertionSortCmpFunc_Deed_state_entered_c1
  simp only [joinR]
  have hins : ∀ (k : List GDeed → Option (List GDeed)) (rp : List GDeed) (x : GDeed) (post : List GDeed), ((rp ++ x :: post).length : Int) = (l.length : Int) → (∀ y, y ∈ rp ∨ y = x ∨ y ∈ post → y ∈ (rp ++ x :: post)) →
      slices_insertionSortCmpFunc_Deed_state_entered_c1_l2 0 k (((rp.length : Int) - 0).toNat + 2) (rp.reverse ++ x :: post) (rp.length : Int) = k ((insR ltW x rp).reverse ++ post) := by
    intro k rp x post h1 _
    exact ins_l (fun x y k => k (ltW x y)) ltW k (slices_insertionSortCmpFunc_Deed_state_entered_c1_l2 0 k) (fun _ _ _ => rfl) rp x post _ (by omega) (by simp at h1; omega) fun y _ k' => rfl
  cases l with
  | nil => rfl
  | cons x l =>
    have hw : W (0 + 1) = (([x] : List GDeed).length : Int) := rfl
    rw [hw]
    exact isort_l ltW (fun x => some x) (fun k x i => slices_insertionSortCmpFunc_Deed_state_entered_c1_l2 0 k ((i - 0).toNat + 2) x i) (slices_insertionSortCmpFunc_Deed_state_entered_c1_l1 ((x :: l).length : Int) 0 fun x => some x) ((x :: l).length : Int) (fun _ _ _ => rfl)
      (fun k rp x post h1 h2 => hins k rp x post h1 h2) l [x] _ (by simp only [List.length_cons, List.length_nil]; omega) (by simp only [List.length_cons, List.length_nil]; omega) (by simp only [List.length_cons, List.length_nil] at hl ⊢; omega)
theorem sortW_is (l : List GDeed) (hl : l.length ≤ 12) : slices_SortFunc_Deed_state_entered_c1 l = some (isort ltW l) := by
  unfold slices_SortFunc_Deed_state_entered_c1
  obtain ⟨r, hr⟩ := Option.isSome_iff_exists.1 (len_d ⟨l.length, by omega⟩)
  simp only at hr
  rw [hr]
  simp only [Option.bind_some]
  unfold slices_pdqsortCmpFunc_Deed_state_entered_c1
  rw [show (4611686018427387904 : Nat) = 4611686018427387903 + 1 from rfl, slices_pdqsortCmpFunc_Deed_state_entered_c1_l1, W_in (by omega) (by omega), if_pos (decide_eq_true (by omega)), isortW_is l hl]
  rfl
theorem ltW_cb (x y : GDeed) : ltW x y = decide (cB x.Who y.Who < 0) := rfl
theorem ltW_irr (x : GDeed) : ltW x x = false := by rw [ltW_cb, cB_refl]; rfl
theorem ltW_trans (x y z : GDeed) (h1 : ltW x y = true) (h2 : ltW y z = true) : ltW x z = true := by
  rw [ltW_cb, decide_eq_true_eq] at *; exact cB_trans h1 h2
theorem ltW_tot {l : List GDeed} (h : (l.map (·.Who)).Nodup) : l.Pairwise fun a b => ltW b a = false → ltW a b = true := by
  refine (List.pairwise_map.1 h).imp fun {a b} hne hb => ?_
  rw [ltW_cb, decide_eq_false_iff_not] at hb
  rw [ltW_cb, decide_eq_true_eq]
  have h0 : cB a.Who b.Who ≠ 0 := fun e => hne (cB_zero e)
  have := cB_flip a.Who b.Who
  omega
end Go.Proofs.YtpfommakhgkmeaaGreatDoor
