/- Sorting, striking and thinning out, to the element. No program stands here. -/
import Derived.Test.YtnmojfimananjaaGreatDoorPSort
namespace Go.Proofs.YtnmojfimananjaaGreatDoor
open Go
section
variable {α : Type}
theorem insR_desc {lt : α → α → Bool} (ht : ∀ x y z, lt x y = true → lt y z = true → lt x z = true) (x : α) : ∀ rp : List α, rp.Pairwise (fun a b => lt b a = true) → (∀ y ∈ rp, lt x y = false → lt y x = true) → (insR lt x rp).Pairwise fun a b => lt b a = true
  | [], _, _ => by simp [insR]
  | y :: r, h, hx => by
    rw [List.pairwise_cons] at h
    unfold insR
    cases hxy : lt x y with
    | true =>
      rw [if_pos rfl]
      refine List.pairwise_cons.2 ⟨fun z hz => ?_, insR_desc ht x r h.2 fun z hz => hx z (List.mem_cons_of_mem _ hz)⟩
      rcases (insR_mem lt x z r).1 hz with rfl | hz
      · exact hxy
      · exact h.1 z hz
    | false =>
      rw [if_neg (by simp)]
      have h1 := hx y (by simp) hxy
      refine List.pairwise_cons.2 ⟨fun z hz => ?_, List.pairwise_cons.2 h⟩
      rcases List.mem_cons.1 hz with rfl | hz
      · exact h1
      · exact ht z y x (h.1 z hz) h1
theorem sortR_desc {lt : α → α → Bool} (ht : ∀ x y z, lt x y = true → lt y z = true → lt x z = true) : ∀ l rp : List α, rp.Pairwise (fun a b => lt b a = true) → (∀ x ∈ l, ∀ y ∈ rp, lt x y = false → lt y x = true) → l.Pairwise (fun a b => lt b a = false → lt a b = true) →
    (sortR lt l rp).Pairwise fun a b => lt b a = true
  | [], rp, h, _, _ => h
  | x :: l, rp, h, h1, h2 => by
    rw [List.pairwise_cons] at h2
    show (sortR lt l (insR lt x rp)).Pairwise _
    refine sortR_desc ht l _ (insR_desc ht x rp h (h1 x (by simp))) (fun z hz y hy => ?_) h2.2
    rcases (insR_mem lt x y rp).1 hy with rfl | hy
    · exact h2.1 z hz
    · exact h1 z (List.mem_cons_of_mem _ hz) y hy
/-- Of elements that the order parts, insertion sort makes an ascending list. -/
theorem isort_asc {lt : α → α → Bool} (ht : ∀ x y z, lt x y = true → lt y z = true → lt x z = true) (l : List α) (h : l.Pairwise fun a b => lt b a = false → lt a b = true) : (isort lt l).Pairwise fun a b => lt a b = true := by
  unfold isort
  rw [List.pairwise_reverse]
  exact sortR_desc ht l [] List.Pairwise.nil (fun _ _ _ h => by cases h) h
theorem isort_mem (lt : α → α → Bool) (l : List α) (z : α) : z ∈ isort lt l ↔ z ∈ l := by
  unfold isort
  rw [List.mem_reverse, sortR_mem]
  simp
/-- Ascending lists with the same elements are one. -/
theorem asc_ext {lt : α → α → Bool} (hi : ∀ x, lt x x = false) (ht : ∀ x y z, lt x y = true → lt y z = true → lt x z = true) : ∀ A B : List α, A.Pairwise (fun a b => lt a b = true) → B.Pairwise (fun a b => lt a b = true) → (∀ x, x ∈ A ↔ x ∈ B) → A = B
  | [], [], _, _, _ => rfl
  | [], b :: B, _, _, h => by have := (h b).2 (by simp); cases this
  | a :: A, [], _, _, h => by have := (h a).1 (by simp); cases this
  | a :: A, b :: B, hA, hB, h => by
    rw [List.pairwise_cons] at hA hB
    have hab : a = b := by
      rcases List.mem_cons.1 ((h a).1 (by simp)) with e | h1
      · exact e
      · rcases List.mem_cons.1 ((h b).2 (by simp)) with e | h2
        · exact e.symm
        · have := ht a b a (hA.1 b h2) (hB.1 a h1)
          rw [hi] at this
          cases this
    subst hab
    have : A = B := asc_ext hi ht A B hA.2 hB.2 fun x => by
      have hx := h x
      constructor
      · intro hm
        rcases List.mem_cons.1 (hx.1 (List.mem_cons_of_mem _ hm)) with rfl | h3
        · have := hA.1 x hm; rw [hi] at this; cases this
        · exact h3
      · intro hm
        rcases List.mem_cons.1 (hx.2 (List.mem_cons_of_mem _ hm)) with rfl | h3
        · have := hB.1 x hm; rw [hi] at this; cases this
        · exact h3
    rw [this]
theorem sortR_len' (lt : α → α → Bool) : ∀ l rp : List α, (sortR lt l rp).length = l.length + rp.length
  | [], rp => by simp [sortR]
  | x :: l, rp => by
    show (sortR lt l (insR lt x rp)).length = _
    rw [sortR_len' lt l, insR_len]
    simp only [List.length_cons]
    omega
theorem isort_len' (lt : α → α → Bool) (l : List α) : (isort lt l).length = l.length := by
  unfold isort
  rw [List.length_reverse, sortR_len']
  simp
/-- A sorted list of elements: whatever ascending list has these elements is what sorting makes. -/
theorem isort_is {lt : α → α → Bool} (hi : ∀ x, lt x x = false) (ht : ∀ x y z, lt x y = true → lt y z = true → lt x z = true) (A B : List α) (h : A.Pairwise fun a b => lt b a = false → lt a b = true) (hB : B.Pairwise fun a b => lt a b = true) (hm : ∀ x, x ∈ A ↔ x ∈ B) : isort lt A = B :=
  asc_ext hi ht _ _ (isort_asc ht A h) hB fun x => by rw [isort_mem, hm]
theorem insR_congr {lt lt' : α → α → Bool} (x : α) : ∀ rp : List α, (∀ y ∈ rp, lt x y = lt' x y) → insR lt x rp = insR lt' x rp
  | [], _ => rfl
  | y :: r, h => by
    unfold insR
    rw [h y (by simp), insR_congr x r fun z hz => h z (List.mem_cons_of_mem _ hz)]
theorem sortR_congr {lt lt' : α → α → Bool} : ∀ l rp : List α, (∀ x ∈ l, ∀ y, y ∈ l ∨ y ∈ rp → lt x y = lt' x y) → sortR lt l rp = sortR lt' l rp
  | [], _, _ => rfl
  | x :: l, rp, h => by
    show sortR lt l (insR lt x rp) = sortR lt' l (insR lt' x rp)
    rw [insR_congr x rp fun y hy => h x (by simp) y (.inr hy)]
    refine sortR_congr l _ fun z hz y hy => h z (List.mem_cons_of_mem _ hz) y ?_
    rcases hy with hy | hy
    · exact .inl (List.mem_cons_of_mem _ hy)
    · rcases (insR_mem lt' x y rp).1 hy with rfl | hy
      · exact .inl (by simp)
      · exact .inr hy
theorem isort_congr {lt lt' : α → α → Bool} (l : List α) (h : ∀ x ∈ l, ∀ y ∈ l, lt x y = lt' x y) : isort lt l = isort lt' l := by
  unfold isort
  rw [sortR_congr l [] fun x hx y hy => h x hx y (by rcases hy with hy | hy; exact hy; cases hy)]
theorem insR_perm (lt : α → α → Bool) (x : α) : ∀ rp : List α, (insR lt x rp).Perm (x :: rp)
  | [] => List.Perm.refl _
  | y :: r => by
    unfold insR
    split
    · exact ((insR_perm lt x r).cons y).trans (List.Perm.swap x y r)
    · exact List.Perm.refl _
theorem sortR_perm (lt : α → α → Bool) : ∀ l rp : List α, (sortR lt l rp).Perm (l ++ rp)
  | [], _ => List.Perm.refl _
  | x :: l, rp => (sortR_perm lt l (insR lt x rp)).trans (((insR_perm lt x rp).append_left l).trans List.perm_middle)
theorem isort_perm (lt : α → α → Bool) (l : List α) : (isort lt l).Perm l := by
  have h := sortR_perm lt l []
  rw [List.append_nil] at h
  exact (List.reverse_perm _).trans h
/-- Neighbours that are alike: the first of each run is kept. -/
def nbF [DecidableEq α] (p : α) : List α → List α
  | [] => []
  | y :: r => if y = p then nbF y r else y :: nbF y r
def nb [DecidableEq α] : List α → List α
  | [] => []
  | x :: r => x :: nbF x r
variable {R : Type} [Inhabited α]
theorem nth_get {l : List α} {k : Nat} {y : α} (h : l[k]? = some y) : nth l (k : Int) = y := by simp [nth, List.getD, h]
/-- slices.DeleteFunc: what is kept. -/
theorem del_is (z : α) (p : α → Bool) (Fi : List α → Nat → Int) (Fd : Nat → List α → Int → Int → Option (List α)) (hi0 : ∀ i, Fi [] i = -1) (hi1 : ∀ y ys i, Fi (y :: ys) i = if p y then (i : Int) else Fi ys (i + 1))
    (hd : ∀ m x1 x2 x3, Fd (m + 1) x1 x2 x3 = if decide (x3 < (x1.length : Int)) then Chk (inB x3 x1.length) (if !(p (nth x1 x3)) then Chk (inB x2 x1.length) (Fd m (x1.set x2.toNat (nth x1 x3)) (W (x2 + 1)) (W (x3 + 1))) else Fd m x1 x2 (W (x3 + 1)))
      else Chk (cutB x2 (x1.length : Int) x1.length) (Chk (cutB 0 x2 (clr x1 x2 (x1.length : Int) z).length) (some (cut (clr x1 x2 (x1.length : Int) z) (0 : Int) x2))))
    (v : List α) (hv : v.length < 1000000000) : (if decide (Fi v 0 = (-1)) then some v else Fd (((v.length : Int) - (W (Fi v 0 + 1))).toNat + 2) v (Fi v 0) (W (Fi v 0 + 1))) = some (v.filter fun b => !p b) := by
  rcases find_l (fun x k => k (p x)) p (-1) id Fi (fun i => hi0 i) (fun y ys i => hi1 y ys i) v 0 (fun _ _ _ => rfl) with ⟨pre, y, post, e, g1, g2, g3⟩ | ⟨g1, g2⟩
  · rw [g3]
    have hn : ((0 + pre.length : Nat) : Int) = (pre.length : Int) := by simp
    have hlen : pre.length + 1 + post.length = v.length := by rw [e]; simp; omega
    rw [if_neg (by simp only [id, decide_eq_true_eq]; omega), id, hn, show W ((pre.length : Int) + 1) = ((pre.length + ([y] : List α).length : Nat) : Int) by rw [W_in (by omega) (by omega)]; simp]
    obtain ⟨mid, e2⟩ := strike_l (fun x k => k (p x)) p _ Fd (fun m x1 x2 x3 => hd m x1 x2 x3) post pre [y] (((v.length : Int) - ((pre.length + ([y] : List α).length : Nat) : Int)).toNat + 2) (by simp; omega) (by simp; omega) (fun _ _ _ => rfl)
    have e3 : v = pre ++ [y] ++ post := by rw [e]; simp
    have e4 : (v.filter fun b => !p b) = pre ++ post.filter fun b => !p b := by
      have h5 : (pre.filter fun b => !p b) = pre := List.filter_eq_self.2 fun x hx => by simp [g1 x hx]
      conv => lhs; arg 2; rw [e3]
      rw [List.filter_append, List.filter_append, h5]
      simp [g2]
    have e5 : ∀ w : List α, w = pre ++ [y] ++ post → Fd (((v.length : Int) - ((pre.length + ([y] : List α).length : Nat) : Int)).toNat + 2) w (pre.length : Int) ((pre.length + ([y] : List α).length : Nat) : Int) = some (v.filter fun b => !p b) := by
      intro w hw
      rw [hw, e2]
      obtain ⟨c1, c2, c3⟩ := cut_clr (pre ++ post.filter fun b => !p b) mid z
      rw [chkT c1, chkT c2, c3, e4]
    exact e5 v e3
  · rw [g2, if_pos (by simp [id])]
    congr 1
    exact (List.filter_eq_self.2 fun x hx => by simp [g1 x hx]).symm
/-- slices.Compact, once two neighbours were alike. -/
theorem comp_l [DecidableEq α] (k n : Nat) (j : List α → Int → Option R) (F : Nat → List α → Int → Int → Option R)
    (h : ∀ m x2 x3 x4, F (m + 1) x2 x3 x4 = if decide (x4 < (((n : Int).toNat - (k : Int).toNat : Nat) : Int)) then
      Chk (inB x4 ((n : Int).toNat - (k : Int).toNat)) (Chk (inB (W (x4 - 1)) ((n : Int).toNat - (k : Int).toNat)) (if !decide ((nth (cut x2 (k : Int) (n : Int)) x4) = (nth (cut x2 (k : Int) (n : Int)) (W (x4 - 1)))) then
        Chk (inB x4 ((n : Int).toNat - (k : Int).toNat)) (Chk (inB x3 x2.length) (F m (x2.set x3.toNat (nth (cut x2 (k : Int) (n : Int)) x4)) (W (x3 + 1)) (W (x4 + 1))))
      else F m x2 x3 (W (x4 + 1)))) else j x2 x3) (hn : n < 1000000000) :
    ∀ (rest kept mid : List α) (p : α) (m r : Nat), rest.length < m → (kept ++ mid ++ p :: rest).length = n → 1 ≤ r → kept.length + mid.length = k + r - 1 →
      ∃ mid', F m (kept ++ mid ++ p :: rest) (kept.length : Int) (r : Int) = j (kept ++ nbF p rest ++ mid') ((kept ++ nbF p rest).length : Int) ∧ (kept ++ nbF p rest ++ mid').length = n
  | [], kept, mid, p, m, r, h1, h2, h3, h4 => by
    obtain ⟨m, rfl⟩ : ∃ q, m = q + 1 := ⟨m - 1, by omega⟩
    simp only [List.length_append, List.length_cons, List.length_nil] at h2
    rw [h, if_neg (by simp only [Int.toNat_natCast, decide_eq_true_eq]; omega)]
    exact ⟨mid ++ [p], by simp [nbF], by simp [nbF]; omega⟩
  | y :: rest, kept, mid, p, m, r, h1, h2, h3, h4 => by
    obtain ⟨m, rfl⟩ : ∃ q, m = q + 1 := ⟨m - 1, by omega⟩
    have h2' := h2
    simp only [List.length_append, List.length_cons] at h1 h2'
    have hk : k ≤ n := by omega
    have n1 : nth (cut (kept ++ mid ++ p :: y :: rest) (k : Int) (n : Int)) (r : Int) = y := by
      have : (cut (kept ++ mid ++ p :: y :: rest) (k : Int) (n : Int))[r]? = some y := by
        unfold cut
        simp only [Int.toNat_natCast]
        rw [List.take_of_length_le (by rw [h2]; omega), List.getElem?_drop, List.getElem?_append_right (by simp; omega)]
        have : k + r - (kept ++ mid).length = 1 := by simp; omega
        rw [this]
        rfl
      exact nth_get this
    have n2 : nth (cut (kept ++ mid ++ p :: y :: rest) (k : Int) (n : Int)) (W ((r : Int) - 1)) = p := by
      rw [W_in (by omega) (by omega)]
      have hr : (r : Int) - 1 = ((r - 1 : Nat) : Int) := by omega
      rw [hr]
      have : (cut (kept ++ mid ++ p :: y :: rest) (k : Int) (n : Int))[r - 1]? = some p := by
        unfold cut
        simp only [Int.toNat_natCast]
        rw [List.take_of_length_le (by rw [h2]; omega), List.getElem?_drop, List.getElem?_append_right (by simp; omega)]
        have : k + (r - 1) - (kept ++ mid).length = 0 := by simp; omega
        rw [this]
        rfl
      exact nth_get this
    have w1 : W ((r : Int) + 1) = ((r + 1 : Nat) : Int) := by rw [W_in (by omega) (by omega)]; rfl
    have w2 : W ((kept.length : Int) + 1) = ((kept.length + 1 : Nat) : Int) := by rw [W_in (by omega) (by omega)]; rfl
    rw [h, if_pos (by simp only [Int.toNat_natCast, decide_eq_true_eq]; omega), chkT (inB_iff.2 (by simp only [Int.toNat_natCast]; omega)), chkT (inB_iff.2 (by simp only [Int.toNat_natCast]; rw [W_in (by omega) (by omega)]; omega)), n1, n2, w1, w2]
    by_cases hy : y = p
    · rw [if_neg (by simp [hy])]
      obtain ⟨mid', e, e'⟩ := comp_l k n j F h hn rest kept (mid ++ [p]) y m (r + 1) (by omega) (by simp; omega) (by omega) (by simp; omega)
      refine ⟨mid', ?_, ?_⟩
      · have e1 : kept ++ (mid ++ [p]) ++ y :: rest = kept ++ mid ++ p :: y :: rest := by simp
        rw [e1] at e
        rw [e]
        simp [nbF, hy]
      · rw [← e']
        simp [nbF, hy]
    · rw [if_pos (by simp [hy]), chkT (inB_iff.2 (by simp only [Int.toNat_natCast]; omega)), chkT (inB_iff.2 (by rw [h2]; omega))]
      cases mid with
      | nil =>
        obtain ⟨mid', e, e'⟩ := comp_l k n j F h hn rest (kept ++ [y]) [] y m (r + 1) (by omega) (by simp; omega) (by omega) (by simp at h4 ⊢; omega)
        refine ⟨mid', ?_, ?_⟩
        · have e1 : (kept ++ [] ++ p :: y :: rest).set (kept.length : Int).toNat y = kept ++ [y] ++ [] ++ y :: rest := by simp
          rw [e1]
          have e2 : ((kept.length + 1 : Nat) : Int) = ((kept ++ [y]).length : Int) := by simp
          rw [e2, e]
          simp [nbF, hy]
        · rw [← e']
          simp [nbF, hy]
      | cons z mid0 =>
        obtain ⟨mid', e, e'⟩ := comp_l k n j F h hn rest (kept ++ [y]) (mid0 ++ [p]) y m (r + 1) (by omega) (by simp at h2' ⊢; omega) (by omega) (by simp at h4 ⊢; omega)
        refine ⟨mid', ?_, ?_⟩
        · have e1 : (kept ++ z :: mid0 ++ p :: y :: rest).set (kept.length : Int).toNat y = kept ++ [y] ++ (mid0 ++ [p]) ++ y :: rest := by simp
          rw [e1]
          have e2 : ((kept.length + 1 : Nat) : Int) = ((kept ++ [y]).length : Int) := by simp
          rw [e2, e]
          simp [nbF, hy]
        · rw [← e']
          simp [nbF, hy]
end
end Go.Proofs.YtnmojfimananjaaGreatDoor
