/- Deeds that count, where none is undone. No program stands here but its twins. -/
import Derived.Test.YtnmojfimananjaaGreatDoorPDeeds
namespace Go.Proofs.YtnmojfimananjaaGreatDoor
open Go
theorem nthMidC (P : List Int) (v : Int) (Q : List Int) : nth (P ++ v :: Q) (P.length : Int) = v := by unfold nth; simp
theorem setMidC (P : List Int) (v u : Int) (Q : List Int) : (P ++ v :: Q).set P.length u = P ++ u :: Q := by simp
theorem rev_l (j : List Int → Option (List Int)) : ∀ (k m : Nat) (A M B : List Int), M.length ≤ k → M.length < m → A.length + M.length + B.length ≤ 1000000 →
    slices_Reverse_int_l1 j m (A ++ (M ++ B)) (A.length : Int) ((A.length : Int) + (M.length : Int) - 1) = j (A ++ (M.reverse ++ B))
  | k, 0, A, M, B, _, h, _ => by omega
  | k, m + 1, A, M, B, hk, hm, hl => by
    rw [slices_Reverse_int_l1]
    match M, hk, hm, hl with
    | [], _, _, _ => rw [if_neg (by simp; omega)]; rfl
    | [z], _, _, _ => rw [if_neg (by simp)]; rfl
    | a :: z :: M1, hk, hm, hl =>
      obtain ⟨M2, b, hM⟩ : ∃ M2 b, z :: M1 = M2 ++ [b] := by
        rcases List.eq_nil_or_concat (z :: M1) with h | ⟨M2, b, h⟩
        · cases h
        · exact ⟨M2, b, by rw [h]; simp⟩
      rw [hM] at hk hm hl ⊢
      simp only [List.length_cons, List.length_append, List.length_nil] at hk hm hl ⊢
      have hlen : (A ++ (a :: (M2 ++ [b]) ++ B)).length = A.length + M2.length + 2 + B.length := by simp; omega
      have e3 : (A.length : Int) + ((M2.length + (0 + 1) + 1 : Nat) : Int) - 1 = ((A.length + M2.length + 1 : Nat) : Int) := by omega
      rw [e3, if_pos (decide_eq_true (by omega))]
      have n2 : nth (A ++ (a :: (M2 ++ [b]) ++ B)) (A.length : Int) = a := by rw [List.cons_append]; exact nthMidC _ _ _
      have h1 : A ++ (a :: (M2 ++ [b]) ++ B) = (A ++ a :: M2) ++ b :: B := by simp
      have h2 : (A ++ a :: M2).length = A.length + M2.length + 1 := by simp; omega
      have n3 : nth (A ++ (a :: (M2 ++ [b]) ++ B)) ((A.length + M2.length + 1 : Nat) : Int) = b := by
        rw [h1, ← h2]; exact nthMidC _ _ _
      have hs : ((A ++ (a :: (M2 ++ [b]) ++ B)).set ((A.length : Int)).toNat b).set (((A.length + M2.length + 1 : Nat) : Int)).toNat a = (A ++ [b]) ++ (M2 ++ (a :: B)) := by
        rw [Int.toNat_natCast, Int.toNat_natCast]
        have q1 : (A ++ (a :: (M2 ++ [b]) ++ B)).set A.length b = (A ++ b :: M2) ++ b :: B := by
          rw [List.cons_append, setMidC]; simp
        have q2 : (A ++ b :: M2).length = A.length + M2.length + 1 := by simp; omega
        rw [q1, ← q2, setMidC]
        simp
      rw [chk_pos (inB_iff.2 (by omega)), chk_pos (inB_iff.2 (by omega)), chk_pos (inB_iff.2 (by omega)), chk_pos (inB_iff.2 (by rw [List.length_set]; omega)), n2, n3, hs, W_in (by omega) (by omega), W_in (by omega) (by omega)]
      have ih := rev_l j (k - 2) m (A ++ [b]) M2 (a :: B) (by omega) (by omega) (by simp; omega)
      have e1 : (((A ++ [b]).length : Nat) : Int) = (A.length : Int) + 1 := by simp
      rw [e1] at ih
      have e2 : (A.length : Int) + 1 + (M2.length : Int) - 1 = ((A.length + M2.length + 1 : Nat) : Int) - 1 := by omega
      rw [e2] at ih
      rw [ih]
      simp
theorem reverse_is (l : List Int) (hl : l.length ≤ 1000000) : slices_Reverse_int l = some l.reverse := by
  unfold slices_Reverse_int
  rw [join_eq, W_in (by omega) (by omega)]
  have h := rev_l (fun x => some x) l.length (((l.length : Int) - 1 - 0).toNat + 2) [] l [] (Nat.le_refl _) (by omega) (by simp; omega)
  simpa using h
/-- Without undoing a deed counts that is not after the moment. -/
theorem count_l (l : List GDeed) (at_ : Int) (hk : ∀ x ∈ l, x.Kind ≠ 4) : ∀ (is : List Nat) (x : List Int), (∀ i ∈ is, i < l.length) → x.length + is.length ≤ 1000000 →
    meet_counting_l1 l at_ is [] x = slices_Reverse_int (x ++ (is.filter fun (i : Nat) => decide ((nth l (i : Int)).At ≤ at_)).map fun (i : Nat) => (i : Int))
  | [], x, _, _ => by rw [meet_counting_l1]; simp
  | i :: is, x, hi, hl => by
    simp only [List.length_cons] at hl
    have h1 := hi i List.mem_cons_self
    have hm : nth l (i : Int) ∈ l := by
      have : nth l (i : Int) = l[i] := by unfold nth; simp [List.getD, List.getElem?_eq_getElem h1]
      rw [this]; exact List.getElem_mem h1
    have hq : meet_cntQ l at_ i [] = decide (at_ < (nth l (i : Int)).At) := by unfold meet_cntQ; simp [mgetD, mget, mfind]
    rw [meet_counting_l1, hq, List.filter_cons]
    by_cases h : at_ < (nth l (i : Int)).At
    · rw [if_pos (decide_eq_true h), count_l l at_ hk is x (fun j hj => hi j (List.mem_cons_of_mem _ hj)) (by omega), if_neg (by simp; omega)]
    · rw [if_neg (by simpa using h), chk_pos (by unfold room; exact decide_eq_true (by omega)), if_neg (by simpa using hk _ hm), count_l l at_ hk is (x ++ [(i : Int)]) (fun j hj => hi j (List.mem_cons_of_mem _ hj)) (by simp; omega), if_pos (decide_eq_true (by omega))]
      simp
theorem filter_down (P : Nat → Bool) : ∀ n : Nat, (∀ i j, i ≤ j → j < n → P j = true → P i = true) → (List.range n).filter P = List.range ((List.range n).countP P)
  | 0, _ => rfl
  | n + 1, h => by
    have ih := filter_down P n fun i j hij hj => h i j hij (by omega)
    rw [List.range_succ, List.filter_append, List.countP_append]
    cases hp : P n with
    | true =>
      have hall : ∀ i ∈ List.range n, P i = true := fun i hi => h i n (by have := List.mem_range.1 hi; omega) (by omega) hp
      have h1 : (List.range n).filter P = List.range n := List.filter_eq_self.2 hall
      have h2 : (List.range n).countP P = n := by rw [List.countP_eq_length.2 hall, List.length_range]
      rw [h1, h2]
      simp [hp, List.range_succ]
    | false =>
      rw [ih]
      simp [hp]
theorem range_nth (l : List GDeed) : (List.range l.length).map (fun (i : Nat) => nth l (i : Int)) = l := by
  apply List.ext_getElem
  · simp
  · intro i h1 h2
    simp [nth, List.getD, List.getElem?_eq_getElem h2]
theorem count_is (l : List GDeed) (at_ : Int) (hl : l.length ≤ 1000000) (hk : ∀ x ∈ l, x.Kind ≠ 4) (hs : l.Pairwise fun x y => x.At ≤ y.At) :
    meet_counting l at_ = some ((List.range (l.countP fun x => decide (x.At ≤ at_))).map fun (i : Nat) => (i : Int)) := by
  have hc : l.countP (fun x => decide (x.At ≤ at_)) = (List.range l.length).countP fun (i : Nat) => decide ((nth l (i : Int)).At ≤ at_) := by
    conv => lhs; rw [← range_nth l]
    rw [List.countP_map]
    rfl
  unfold meet_counting
  rw [count_l l at_ hk (revI l.length) [] (fun i hi => by
    unfold revI at hi
    simpa using hi) (by simp [revI]; omega), List.nil_append, reverse_is _ (by
      rw [List.length_map]
      have := List.length_filter_le (fun (i : Nat) => decide ((nth l (i : Int)).At ≤ at_)) (revI l.length)
      have h2 : (revI l.length).length = l.length := by simp [revI]
      omega), ← List.map_reverse, hc]
  congr 2
  unfold revI
  rw [List.filter_reverse, List.reverse_reverse]
  refine filter_down _ _ fun i j hij hj hp => ?_
  rcases Nat.eq_or_lt_of_le hij with rfl | hlt
  · exact hp
  · have h1 := (List.pairwise_iff_getElem.1 hs) i j (by omega) hj hlt
    have e1 : nth l (i : Int) = l[i] := by unfold nth; simp [List.getD, List.getElem?_eq_getElem (show i < l.length by omega)]
    have e2 : nth l (j : Int) = l[j] := by unfold nth; simp [List.getD, List.getElem?_eq_getElem hj]
    rw [e2] at hp
    rw [e1]
    exact decide_eq_true (by have := of_decide_eq_true hp; omega)
end Go.Proofs.YtnmojfimananjaaGreatDoor
