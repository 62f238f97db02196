/- What the stream gives of calls; pairs sorted. No program stands here but its twins. -/
import Derived.Test.YtolmdpjkmjfjdaaGreatDoorPBoth
import Derived.Test.YtolmdpjkmjfjdaaGreatDoorPStr
namespace Go.Proofs.YtolmdpjkmjfjdaaGreatDoor
open Go
/-! ### Pairs, sorted -/
/-! ### Items, sorted -/
def ltI (x y : GItem) : Bool := decide (Stream_RightCalls_c1 x y < 0)
theorem isortI_is (l : List GItem) (hl : l.length ≤ 12) : slices_insertionSortCmpFunc_Item_Stream_RightCalls_c1 l 0 (l.length : Int) = some (isort ltI l) := by
  unfold slices_insertionSortCmpFunc_Item_Stream_RightCalls_c1
  simp only [joinR]
  have hins : ∀ (k : List GItem → Option (List GItem)) (rp : List GItem) (x : GItem) (post : List GItem), ((rp ++ x :: post).length : Int) = (l.length : Int) → (∀ y, y ∈ rp ∨ y = x ∨ y ∈ post → y ∈ (rp ++ x :: post)) →
      slices_insertionSortCmpFunc_Item_Stream_RightCalls_c1_l2 0 k (((rp.length : Int) - 0).toNat + 2) (rp.reverse ++ x :: post) (rp.length : Int) = k ((insR ltI x rp).reverse ++ post) := by
    intro k rp x post h1 _
    exact ins_l (fun x y k => k (ltI x y)) ltI k (slices_insertionSortCmpFunc_Item_Stream_RightCalls_c1_l2 0 k) (fun _ _ _ => rfl) rp x post _ (by omega) (by simp at h1; omega) fun y _ k' => rfl
  cases l with
  | nil => rfl
  | cons x l =>
    have hw : W (0 + 1) = (([x] : List GItem).length : Int) := rfl
    rw [hw]
    exact isort_l ltI (fun x => some x) (fun k x i => slices_insertionSortCmpFunc_Item_Stream_RightCalls_c1_l2 0 k ((i - 0).toNat + 2) x i) (slices_insertionSortCmpFunc_Item_Stream_RightCalls_c1_l1 ((x :: l).length : Int) 0 fun x => some x) ((x :: l).length : Int) (fun _ _ _ => rfl)
      (fun k rp x post h1 h2 => hins k rp x post h1 h2) l [x] _ (by simp only [List.length_cons, List.length_nil]; omega) (by simp only [List.length_cons, List.length_nil]; omega) (by simp only [List.length_cons, List.length_nil] at hl ⊢; omega)
theorem sortI_is (l : List GItem) (hl : l.length ≤ 12) : slices_SortFunc_Item_Stream_RightCalls_c1 l = some (isort ltI l) := by
  unfold slices_SortFunc_Item_Stream_RightCalls_c1
  have h := len13 ⟨l.length, by omega⟩
  obtain ⟨r, hr⟩ := Option.isSome_iff_exists.1 h
  simp only at hr
  rw [hr]
  simp only [Option.bind_some]
  unfold slices_pdqsortCmpFunc_Item_Stream_RightCalls_c1
  rw [show (4611686018427387904 : Nat) = 4611686018427387903 + 1 from rfl, slices_pdqsortCmpFunc_Item_Stream_RightCalls_c1_l1, W_in (by omega) (by omega), if_pos (decide_eq_true (by omega)), isortI_is l hl]
  rfl
/-! ### Calls -/
theorem imin3 (n : Int) : imin n 3 ≤ 3 := by
  unfold imin
  split <;> omega
section
variable {L : List Int} (hL : LongL L)
include hL
theorem calls_2 (w : ByteArray) (j : List GCall → Int → Option (List GCall × Int)) : ∀ (ys : List GItem) (i : Nat) (x : List GCall) (a : Int), 0 ≤ a → a + 2 * ys.length ≤ 100000000 → x.length + ys.length ≤ 10000 →
    ∃ z b, Stream_RightCalls_l2 L w j ys i x a = j (x ++ z) b ∧ a ≤ b ∧ b ≤ a + 2 * ys.length ∧ z.length ≤ ys.length ∧ ∀ c ∈ z, c.Who = w
  | [], i, x, a, _, _, _ => ⟨[], a, by rw [List.append_nil]; rfl, by omega, by simp, by simp, fun _ h => by cases h⟩
  | y :: ys, i, x, a, h1, h2, h3 => by
    simp only [List.length_cons] at h2 h3 ⊢
    rw [Stream_RightCalls_l2]
    simp only [joinR]
    obtain ⟨f, b1, e1, g1, g2, _⟩ := flip_dr hL (a := a) h1 (by omega) 2 (by omega)
    rw [e1]; simp only [Option.bind_some]
    cases hc : (f && decide (0 < y.Heats)) with
    | true =>
      rw [if_pos rfl]
      obtain ⟨h, b2, e2, g3, g4, _⟩ := range_dr hL (a := b1) (by omega) (by omega) 1 (imin y.Heats 3) (by omega) (by omega) (by have := imin3 y.Heats; omega)
      rw [e2]; simp only [Option.bind_some]
      rw [chkT (by unfold room; simp; omega)]
      obtain ⟨z, b, r1, r2, r3, r4, r5⟩ := calls_2 w j ys (i + 1) (x ++ [GCall.mk w y.Key h]) b2 (by omega) (by omega) (by simp; omega)
      refine ⟨GCall.mk w y.Key h :: z, b, by rw [r1]; simp, by omega, by omega, by simp; omega, fun c hc => ?_⟩
      rcases List.mem_cons.1 hc with rfl | hc
      · rfl
      · exact r5 c hc
    | false =>
      rw [if_neg (by simp)]
      obtain ⟨z, b, r1, r2, r3, r4, r5⟩ := calls_2 w j ys (i + 1) x b1 (by omega) (by omega) (by omega)
      exact ⟨z, b, r1, by omega, by omega, by omega, r5⟩
theorem calls_1 (items : List GItem) (hi : items.length ≤ 5) : ∀ (ws : List ByteArray) (i : Nat) (x : List GCall) (a : Int), 0 ≤ a → a + 10 * ws.length ≤ 10000000 → x.length + 5 * ws.length ≤ 1000 →
    ∃ z b, Stream_RightCalls_l1 items L (fun x a => some (x, a)) ws i x a = some (x ++ z, b) ∧ a ≤ b ∧ b ≤ a + 10 * ws.length ∧ z.length ≤ 5 * ws.length ∧ ∀ who, (z.filter fun c => decide (c.Who = who)).length ≤ 5 * (ws.filter fun w => decide (w = who)).length
  | [], i, x, a, _, _, _ => ⟨[], a, by rw [List.append_nil]; rfl, by omega, by simp, by simp, fun _ => by simp⟩
  | w :: ws, i, x, a, h1, h2, h3 => by
    simp only [List.length_cons] at h2 h3 ⊢
    rw [Stream_RightCalls_l1]
    unfold slices_Clone_Item
    rw [chkT (by simp; omega)]
    simp only [Option.bind_some, List.nil_append]
    rw [sortI_is items (by omega)]
    simp only [Option.bind_some, joinR]
    have hil := isort_len' ltI items
    obtain ⟨z1, b1, e1, g1, g2, g3, g4⟩ := calls_2 hL w (fun (x3 : List GCall) (x4 : Int) => Stream_RightCalls_l1 items L (fun x a => some (x, a)) ws (i + 1) x3 x4) (isort ltI items) 0 x a h1 (by omega) (by omega)
    rw [e1]
    obtain ⟨z2, b2, e2, g5, g6, g7, g8⟩ := calls_1 items hi ws (i + 1) (x ++ z1) b1 (by omega) (by omega) (by rw [List.length_append]; omega)
    refine ⟨z1 ++ z2, b2, by rw [e2]; simp, by omega, by omega, by rw [List.length_append]; omega, fun who => ?_⟩
    have h5 := g8 who
    rw [List.filter_append, List.length_append, List.filter_cons]
    by_cases hw : w = who
    · have h6 := List.length_filter_le (fun c : GCall => decide (c.Who = who)) z1
      rw [if_pos (decide_eq_true hw), List.length_cons]
      omega
    · have h6 : (z1.filter fun c => decide (c.Who = who)) = [] := List.filter_eq_nil_iff.2 fun c hc => by rw [g4 c hc]; simpa using hw
      rw [if_neg (by simpa using hw), h6, List.length_nil]
      omega
omit hL in
theorem one_name (who : ByteArray) : (([k_ann, k_bea, k_cid] : List ByteArray).filter fun w => decide (w = who)).length ≤ 1 := by
  by_cases h1 : k_ann = who
  · subst h1; decide +kernel
  · by_cases h2 : k_bea = who
    · subst h2; decide +kernel
    · by_cases h3 : k_cid = who
      · subst h3; decide +kernel
      · simp [h1, h2, h3]
theorem rightCalls_dr {a : Int} (h0 : 0 ≤ a) (h1 : a ≤ 1000000) (items : List GItem) (hi : items.length ≤ 5) : Dr a 30 (fun x => x.length ≤ 15 ∧ ∀ who, (x.filter fun c => decide (c.Who = who)).length ≤ 5) (Stream_RightCalls L a items) := by
  unfold Stream_RightCalls
  rw [joinR]
  obtain ⟨z, b, e, g1, g2, g3, g4⟩ := calls_1 hL items hi [k_ann, k_bea, k_cid] 0 [] a h0 (by simp; omega) (by simp)
  rw [List.nil_append] at e
  exact ⟨z, b, e, g1, by simp at g2; omega, by simp at g3; omega, fun who => by have := g4 who; have := one_name who; omega⟩
end
theorem set_filter {α : Type} (p : α → Bool) (v : α) : ∀ (l : List α) (i : Nat), ((l.set i v).filter p).length ≤ (l.filter p).length + 1
  | [], _ => by simp
  | x :: l, 0 => by
    rw [List.set_cons_zero, List.filter_cons, List.filter_cons]
    split <;> split <;> first | omega | (simp only [List.length_cons]; omega)
  | x :: l, i + 1 => by
    have := set_filter p v l i
    rw [List.set_cons_succ, List.filter_cons, List.filter_cons]
    split <;> first | omega | (simp only [List.length_cons]; omega)
end Go.Proofs.YtolmdpjkmjfjdaaGreatDoor
