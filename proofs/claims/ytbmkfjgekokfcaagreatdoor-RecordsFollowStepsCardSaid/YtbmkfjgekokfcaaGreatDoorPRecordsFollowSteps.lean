/- The plain law of RecordsFollowSteps. No program stands here but its twins. -/
import Derived.Test.YtbmkfjgekokfcaaGreatDoorPRecK
import Derived.Test.YtbmkfjgekokfcaaGreatDoorPStepsM
import Derived.Test.YtbmkfjgekokfcaaGreatDoorPReady
namespace Go.Proofs.YtbmkfjgekokfcaaGreatDoor
open Go
theorem mid_is {l h : Int} (h0 : 0 ≤ l) (h1 : l ≤ h) (h2 : h ≤ 100000) : W (bitShr .u64 (IntKind.wrap .u64 (W (l + h))) 1) = (l + h) / 2 := by
  have e1 : W (l + h) = l + h := W_in (by omega) (by omega)
  have e2 : IntKind.wrap .u64 (l + h) = l + h := by
    simp only [IntKind.wrap, IntKind.bits, IntKind.signed]
    simp
    omega
  have e3 : bitShr .u64 (l + h) 1 = (l + h) / 2 := by
    unfold bitShr
    have : (min (1 : Int).toNat IntKind.u64.bits) = 1 := by decide
    rw [this]
    exact Int.fdiv_eq_ediv_of_nonneg _ (by decide)
  rw [e1, e2, e3, W_in (by omega) (by omega)]
theorem nth_at {α : Type} [Inhabited α] (a : List α) (i : Nat) (h : i < a.length) : nth a (i : Int) = a[i] := by
  simp [nth, List.getD, List.getElem?_eq_getElem h]
theorem bs_loop (a : List GStep) (hl : a.length ≤ 2000) (hu : StUp a) (y : GStep) (j : Int → Option (Int × Bool)) : ∀ (m lo hi : Nat), hi - lo < m → lo ≤ hi → hi ≤ a.length → (∀ i (h : i < a.length), i < lo → record_compare a[i] y < 0) → (∀ i (h : i < a.length), hi ≤ i → ¬ record_compare a[i] y < 0) →
    ∃ k : Nat, k ≤ a.length ∧ slices_BinarySearchFunc_Step_record_compare_l1 a y j m (lo : Int) (hi : Int) = j (k : Int) ∧ (∀ i (h : i < a.length), i < k → record_compare a[i] y < 0) ∧ (∀ i (h : i < a.length), k ≤ i → ¬ record_compare a[i] y < 0)
  | 0, lo, hi, h, _, _, _, _ => by omega
  | m + 1, lo, hi, h, h1, h2, h3, h4 => by
    rw [slices_BinarySearchFunc_Step_record_compare_l1]
    by_cases hc : lo < hi
    · have hmid : W (bitShr .u64 (IntKind.wrap .u64 (W ((lo : Int) + (hi : Int)))) 1) = (((lo + hi) / 2 : Nat) : Int) := by rw [mid_is (by omega) (by omega) (by omega)]; omega
      have hmn : (lo + hi) / 2 < a.length := by omega
      rw [if_pos (by simpa using hc)]
      simp only [joinR]
      rw [hmid, chkT (inB_iff.2 (by omega)), nth_at a _ hmn]
      have hmono := List.pairwise_iff_getElem.1 hu
      by_cases hlt : record_compare a[(lo + hi) / 2] y < 0
      · rw [if_pos (decide_eq_true hlt), W_in (by omega) (by omega)]
        refine bs_loop a hl hu y j m ((lo + hi) / 2 + 1) hi (by omega) (by omega) h2 (fun i h hi' => ?_) h4
        by_cases he : i = (lo + hi) / 2
        · subst he; exact hlt
        · exact cmp_trans (hmono i _ h hmn (by omega)) hlt
      · rw [if_neg (by simpa using hlt)]
        refine bs_loop a hl hu y j m lo ((lo + hi) / 2) (by omega) (by omega) (by omega) h3 (fun i h hi' => ?_)
        by_cases he : i = (lo + hi) / 2
        · subst he; exact hlt
        · exact fun h5 => hlt (cmp_trans (hmono _ i hmn h (by omega)) h5)
    · rw [if_neg (by simpa using hc)]
      exact ⟨lo, by omega, rfl, h3, fun i h hi' => h4 i h (by omega)⟩
theorem bs_is (a : List GStep) (hl : a.length ≤ 2000) (hu : StUp a) (y : GStep) : ∃ k b, slices_BinarySearchFunc_Step_record_compare a y = some (k, b) ∧
    (b = true → inB k a.length = true ∧ nth a k ∈ a ∧ record_compare (nth a k) y = 0) ∧ (b = false → ∀ s ∈ a, record_compare s y ≠ 0) := by
  unfold slices_BinarySearchFunc_Step_record_compare
  simp only [joinR]
  obtain ⟨k, hk, e, h1, h2⟩ := bs_loop a hl hu y (fun x1 => if decide (x1 < (a.length : Int)) then Chk (inB x1 a.length) (some (x1, decide (record_compare (nth a x1) y = 0))) else some (x1, false)) (((a.length : Int) - 0).toNat + 2) 0 a.length (by omega) (by omega) (Nat.le_refl _) (fun i _ h => by omega) (fun i h h' => by omega)
  rw [Int.natCast_zero] at e
  rw [e]
  have hmono := List.pairwise_iff_getElem.1 hu
  by_cases hkn : k < a.length
  · rw [if_pos (by simpa using hkn), chkT (inB_iff.2 (by omega)), nth_at a k hkn]
    refine ⟨_, _, rfl, fun hb => ⟨inB_iff.2 (by omega), by rw [nth_at a k hkn]; exact List.getElem_mem hkn, by rw [nth_at a k hkn]; simpa using hb⟩, fun hb s hs => ?_⟩
    have hb' : record_compare a[k] y ≠ 0 := by simpa using hb
    obtain ⟨i, hi, rfl⟩ := List.mem_iff_getElem.1 hs
    by_cases h3 : i < k
    · have := h1 i hi h3; omega
    · by_cases h4 : i = k
      · subst h4; exact hb'
      · intro h5
        have h6 := hmono k i hkn hi (by omega)
        have h7 := h2 k hkn (Nat.le_refl _)
        have h8 := (cmp_eq0 _ _).1 h5
        rcases cmp_tri a[k] y with h9 | h9 | h9
        · exact h7 h9
        · exact cmp_irr a[i] (cmp_congr ⟨h8.1.symm, h8.2.1.symm, h8.2.2.symm⟩ (cmp_trans h9 h6))
        · exact hb' ((cmp_eq0 _ _).2 h9)
  · rw [if_neg (by simpa using hkn)]
    refine ⟨_, _, rfl, fun hb => by simp at hb, fun _ s hs => ?_⟩
    obtain ⟨i, hi, rfl⟩ := List.mem_iff_getElem.1 hs
    have := h1 i hi (by omega)
    omega
theorem merge_loop (a : List GStep) (hl : a.length ≤ 1000) (hu : StUp a) (j : List GStep → Option (List GStep × Int)) : ∀ (ys : List GStep) (i : Nat) (x : List GStep), x.length + ys.length ≤ 3000 → (∀ y ∈ ys, ∀ s ∈ a, record_compare s y = 0 → s = y) →
    record_Merge_l1 a j ys i x = j (x ++ ys.filter fun y => !decide (y ∈ a))
  | [], _, x, _, _ => by simp [record_Merge_l1]
  | y :: ys, i, x, h, hc => by
    simp only [List.length_cons] at h
    have ih := fun x' h' => merge_loop a hl hu j ys (i + 1) x' h' fun z hz => hc z (List.mem_cons_of_mem _ hz)
    obtain ⟨k, b, e, h1, h2⟩ := bs_is a (by omega) hu y
    rw [record_Merge_l1, e]
    simp only [Option.bind_some, joinR]
    cases b with
    | true =>
      obtain ⟨g1, g2, g3⟩ := h1 rfl
      have he := hc y List.mem_cons_self _ g2 g3
      have hy : y ∈ a := he ▸ g2
      rw [if_neg (by simp), chkT g1, if_neg (by simp [he]), ih x (by omega)]
      simp [hy]
    | false =>
      have hy : y ∉ a := fun hy => h2 rfl y hy ((cmp_eq0 _ _).2 ⟨rfl, rfl, rfl⟩)
      rw [if_pos (by simp), chkT (by unfold room; exact decide_eq_true (by omega)), ih (x ++ [y]) (by simp; omega)]
      simp [hy]
theorem merge_is {x p q : List GStep} (hx : record_CheckSteps x = some 0) (hxl : x.length ≤ 100) (hp : p.Sublist x) (hq : q.Sublist x) (hpq : ∀ s ∈ x, s ∈ p ∨ s ∈ q) : record_Merge p q = some (x, 0) := by
  obtain ⟨_, _, hu, _⟩ := check_up hx
  have hpu : StUp p := List.Pairwise.sublist hp hu
  have l1 := hp.length_le
  have l2 := hq.length_le
  have heq := up_eq hu
  have hcp := sub_check hp hx
  have hcq := sub_check hq hx
  have hsl : slices_Clone_Step p = some p := by
    unfold slices_Clone_Step
    rw [chkT (decide_eq_true (by simp; omega))]
    rfl
  unfold record_Merge
  rw [hcp, hcq, hsl]
  simp only [Option.bind_some, joinR, decide_true, Bool.not_true, Bool.false_eq_true, if_false]
  rw [merge_loop p (by omega) hpu _ q 0 p (by omega) fun y hy s hs h0 => heq s (hp.subset hs) y (hq.subset hy) ((cmp_eq0 _ _).1 h0)]
  have hfl : (q.filter fun y => !decide (y ∈ p)).length ≤ q.length := List.length_filter_le _ _
  have hmem : ∀ s, s ∈ p ++ q.filter (fun y => !decide (y ∈ p)) ↔ s ∈ x := by
    intro s
    constructor
    · intro h
      rcases List.mem_append.1 h with h | h
      · exact hp.subset h
      · exact hq.subset (List.mem_filter.1 h).1
    · intro h
      by_cases hs : s ∈ p
      · exact List.mem_append_left _ hs
      · refine List.mem_append_right _ (List.mem_filter.2 ⟨(hpq s h).resolve_left hs, by simp [hs]⟩)
  have hnd : (p ++ q.filter fun y => !decide (y ∈ p)).Nodup := by
    refine List.nodup_append.2 ⟨up_nodup hpu, (List.Pairwise.sublist List.filter_sublist (up_nodup (List.Pairwise.sublist hq hu))), ?_⟩
    intro a ha b hb e
    subst e
    have := (List.mem_filter.1 hb).2
    simp [ha] at this
  have hperm : (p ++ q.filter fun y => !decide (y ∈ p)).Perm x := (List.perm_ext_iff_of_nodup hnd (up_nodup hu)).2 hmem
  have hlen := hperm.length_eq
  rw [if_neg (by rw [hlen]; simp; omega)]
  have hgood : CmpGood record_compare (p ++ q.filter fun y => !decide (y ∈ p)) := cmp_good fun s hs t ht h => heq s ((hmem s).1 hs) t ((hmem t).1 ht) h
  have hsort : sortedBy record_compare (p ++ q.filter fun y => !decide (y ∈ p)) = x := by
    unfold sortedBy
    refine List.Perm.eq_of_pairwise (le := fun x y => (!decide (record_compare y x < 0)) = true) ?_ (List.pairwise_mergeSort ?_ ?_ _) ?_ ((List.mergeSort_perm _ _).trans hperm)
    · intro s t hs ht h1 h2
      simp only [Bool.not_eq_true', decide_eq_false_iff_not] at h1 h2
      rcases cmp_tri s t with h3 | h3 | h3
      · exact absurd h3 h2
      · exact absurd h3 h1
      · exact heq s ((hmem s).1 (List.mem_mergeSort.1 hs)) t ht h3
    · intro r s t h1 h2
      simp only [Bool.not_eq_true', decide_eq_false_iff_not] at h1 h2 ⊢
      exact cmp_ntrans h2 h1
    · intro s t
      by_cases h1 : record_compare t s < 0
      · have : ¬ record_compare s t < 0 := fun h2 => cmp_irr t (cmp_trans h1 h2)
        simp [this]
      · simp [h1]
    · refine List.Pairwise.imp (fun {s t} h => ?_) hu
      have : ¬ record_compare t s < 0 := fun h2 => cmp_irr s (cmp_trans h h2)
      simp [this]
  unfold slices_SortFunc_Step_record_compare
  rw [if_pos ⟨hgood, by rw [hlen]; omega⟩, hsort]
  rfl
theorem parts_l (L : List Int) (hL : LongL L) : ∀ (ys : List GStep) (i : Nat) (x1 x2 : List GStep) (a : Int), 0 ≤ a → a + ys.length ≤ 1000000 → x1.length + ys.length ≤ 1000 → x2.length + ys.length ≤ 1000 →
    ∃ u v b, tumbkeep2_parts_Step_l1 L (fun x1 x2 x3 => some (x2, x1, x3)) ys i x1 x2 a = some (x2 ++ v, x1 ++ u, b) ∧ u.Sublist ys ∧ v.Sublist ys ∧ ∀ s ∈ ys, s ∈ v ∨ s ∈ u
  | [], _, x1, x2, a, _, _, _, _ => ⟨[], [], a, by simp [tumbkeep2_parts_Step_l1], List.Sublist.refl _, List.Sublist.refl _, fun _ h => by cases h⟩
  | y :: ys, i, x1, x2, a, h0, h1, h2, h3 => by
    simp only [List.length_cons] at h1 h2 h3
    push_cast at h1
    obtain ⟨r, b, e, g1, g2, _⟩ := next_dr hL (a := a) (by omega) (by omega) 3 (by omega)
    rw [tumbkeep2_parts_Step_l1, e]
    simp only [Option.bind_some, joinR]
    have r1 : room x1.length = true := by unfold room; exact decide_eq_true (by omega)
    have r2 : room x2.length = true := by unfold room; exact decide_eq_true (by omega)
    by_cases hr0 : r = 0
    · rw [if_pos (decide_eq_true hr0), chkT r2]
      obtain ⟨u, v, c, e1, s1, s2, s3⟩ := parts_l L hL ys (i + 1) x1 (x2 ++ [y]) b (by omega) (by omega) (by omega) (by simp; omega)
      refine ⟨u, y :: v, c, by rw [e1]; simp, s1.cons y, s2.cons_cons y, fun s hs => ?_⟩
      rcases List.mem_cons.1 hs with rfl | hs
      · exact .inl List.mem_cons_self
      · exact (s3 s hs).imp (List.mem_cons_of_mem _) id
    · rw [if_neg (by simpa using hr0)]
      by_cases hr1 : r = 1
      · rw [if_pos (decide_eq_true hr1), chkT r1]
        obtain ⟨u, v, c, e1, s1, s2, s3⟩ := parts_l L hL ys (i + 1) (x1 ++ [y]) x2 b (by omega) (by omega) (by simp; omega) (by omega)
        refine ⟨y :: u, v, c, by rw [e1]; simp, s1.cons_cons y, s2.cons y, fun s hs => ?_⟩
        rcases List.mem_cons.1 hs with rfl | hs
        · exact .inr List.mem_cons_self
        · exact (s3 s hs).imp id (List.mem_cons_of_mem _)
      · rw [if_neg (by simpa using hr1), chkT r2, chkT r1]
        obtain ⟨u, v, c, e1, s1, s2, s3⟩ := parts_l L hL ys (i + 1) (x1 ++ [y]) (x2 ++ [y]) b (by omega) (by omega) (by simp; omega) (by simp; omega)
        refine ⟨y :: u, y :: v, c, by rw [e1]; simp, s1.cons_cons y, s2.cons_cons y, fun s hs => ?_⟩
        rcases List.mem_cons.1 hs with rfl | hs
        · exact .inl List.mem_cons_self
        · exact (s3 s hs).imp (List.mem_cons_of_mem _) (List.mem_cons_of_mem _)
theorem sel_mem (P : GStep → Nat → Bool) : ∀ (l : List GStep) (i : Nat) (n : Nat), (n : Int) ∈ sel P (fun _ i => (i : Int)) l i ↔ ∃ k y, l[k]? = some y ∧ n = i + k ∧ P y n = true
  | [], i, n => by simp [sel]
  | y :: l, i, n => by
    have ih := sel_mem P l (i + 1) n
    have hr : (∃ k z, (y :: l)[k]? = some z ∧ n = i + k ∧ P z n = true) ↔ (n = i ∧ P y i = true) ∨ ∃ k z, l[k]? = some z ∧ n = i + 1 + k ∧ P z n = true := by
      constructor
      · rintro ⟨k, z, h1, h2, h3⟩
        cases k with
        | zero =>
          have : y = z := by simpa using h1
          subst this
          exact .inl ⟨by omega, by rw [show i = n by omega]; exact h3⟩
        | succ k => exact .inr ⟨k, z, by simpa using h1, by omega, h3⟩
      · rintro (⟨h1, h2⟩ | ⟨k, z, h1, h2, h3⟩)
        · exact ⟨0, y, rfl, by omega, by rw [h1]; exact h2⟩
        · exact ⟨k + 1, z, by simpa using h1, by omega, h3⟩
    rw [hr, ← ih, show sel P (fun _ i => (i : Int)) (y :: l) i = if P y i then (i : Int) :: sel P (fun _ i => (i : Int)) l (i + 1) else sel P (fun _ i => (i : Int)) l (i + 1) from rfl]
    cases hP : P y i with
    | true =>
      rw [if_pos rfl, List.mem_cons]
      constructor
      · rintro (h | h)
        · exact .inl ⟨by omega, rfl⟩
        · exact .inr h
      · rintro (⟨h, _⟩ | h)
        · exact .inl (by omega)
        · exact .inr h
    | false =>
      rw [if_neg (by simp)]
      simp
theorem index_l (v : Int) : ∀ (l : List Int) (i : Nat), decide (0 ≤ slices_Index_int_l1 v (-1) l i) = decide (v ∈ l)
  | [], _ => by simp [slices_Index_int_l1]
  | y :: l, i => by
    rw [slices_Index_int_l1]
    by_cases h : v = y
    · rw [if_pos (decide_eq_true h)]
      rw [decide_eq_true (show 0 ≤ (i : Int) by omega), decide_eq_true (by rw [h]; exact List.mem_cons_self)]
    · rw [if_neg (by simpa using h), index_l v l (i + 1)]
      simp [h]
theorem contains_is (l : List Int) (v : Int) : slices_Contains_int l v = decide (v ∈ l) := by
  unfold slices_Contains_int slices_Index_int
  rw [joinR]
  exact index_l v l 0
theorem refused_is {x : List GStep} (hx : record_CheckSteps x = some 0) : record_Refused x = some (refs x, 0) := by
  obtain ⟨h1, h2, h3, _⟩ := check_up hx
  obtain ⟨sw, w1, _⟩ := follow_is x h1 h2 (up_adj h3) 345686400000
  rw [upS_all fun s hs => by have := (h2 s hs).1; omega] at w1
  unfold record_Refused
  rw [hx]
  simp only [Option.bind_some, decide_true, Bool.not_true, Bool.false_eq_true, if_false, w1]
theorem allRec_is {k : List GKind} {x : List GStep} {t : Int} (hk : record_CheckKinds k = some 0) (hkl : k.length ≤ 50) (hx : record_CheckSteps x = some 0) (ht : words_IsMoment t = true) : record_All k x t = some (allS k (upS x t), 0) := by
  obtain ⟨h1, h2, h3, _⟩ := check_up hx
  obtain ⟨sw, w1, w2⟩ := follow_is x h1 h2 (up_adj h3) t
  have hu := upS_len x t
  unfold record_All
  rw [both_is k x hk hx]
  simp only [Option.bind_some, joinR, ht, w1]
  rw [all_loop sw _ (upS x t) (by omega) w2 k 0 [] (by simp; omega)]
  rfl
theorem eqStep_is (l : List GStep) : slices_Equal_Step l l = some true := by
  unfold slices_Equal_Step
  rw [if_neg (by simp), joinR]
  exact eq_l l (slices_Equal_Step_l1 l (some true)) (fun _ => rfl) (fun _ _ _ => rfl) l [] rfl
theorem plain_RecordsFollowSteps (l : List Int) (hl : l.length ≤ 9223372036854775807) : tumbkeep2_RecordsFollowSteps l = some true := by
  have hL : LongL l := by unfold LongL; omega
  obtain ⟨k, a1, e1, p1, q1, k1, k2, k3⟩ := rightK_dr hL (a := 0) (by omega) (by omega)
  obtain ⟨n, a2, e2, p2, q2, n1, n2⟩ := range_dr hL (a := a1) (by omega) (by omega) 0 16 (by omega) (by omega) (by omega)
  obtain ⟨x, a3, e3, p3, q3, x1, x2⟩ := rightSteps_dr hL n (by omega) (by omega) (a := a2) (by omega) (by omega)
  obtain ⟨t, a4, e4, p4, q4, t1, t2⟩ := range_dr hL (a := a3) (by omega) (by omega) 0 60 (by omega) (by omega) (by omega)
  have ht : words_IsMoment t = true := by
    rw [momentR]
    unfold tumbref2_Moment tumbref2_in
    simp only [Bool.and_eq_true, decide_eq_true_eq]
    omega
  have hy := sub_check (keepS_sub x) x2
  have hu := (check_up x2).2.2.1
  obtain ⟨u, v, b, e5, s1, s2, s3⟩ := parts_l l hL x 0 [] [] a4 (by omega) (by omega) (by simp; omega) (by simp; omega)
  have hparts : tumbkeep2_parts_Step l a4 x = some (v, u, b) := by
    unfold tumbkeep2_parts_Step
    rw [joinR]
    exact e5
  have m1 := merge_is x2 (by omega) s2 s1 s3
  have m2 := merge_is x2 (by omega) s1 s2 fun s hs => (s3 s hs).symm
  have r0 := refused_is x2
  have r1 := refused_is hy
  rw [refs_keep] at r1
  have A1 := allRec_is k1 (by omega) x2 ht
  have A2 := allRec_is k1 (by omega) hy ht
  rw [upS_keep t x (up_at hu), allS_keep] at A2
  unfold tumbkeep2_RecordsFollowSteps
  rw [e1]; simp only [Option.bind_some]
  rw [e2]; simp only [Option.bind_some]
  rw [e3]; simp only [Option.bind_some]
  rw [e4]; simp only [Option.bind_some]
  rw [r0]; simp only [Option.bind_some, joinR]
  have hloop := fun (j : List GStep → Option Bool) => app_l (fun (_ : GStep) i => !slices_Contains_int (refs x) (i : Int)) (fun s _ => s) j (tumbkeep2_RecordsFollowSteps_l1 (refs x, 0) j) (fun _ _ => rfl) x (by omega) 0 (by omega) (fun dn y ys z h _ => by
    rw [tumbkeep2_RecordsFollowSteps_l1]
    simp only [joinR]) x [] [] rfl (by simp)
  have hkeep : sel (fun (_ : GStep) i => !slices_Contains_int (refs x) (i : Int)) (fun s _ => s) x 0 = keepS x := by
    refine sel_congr x 0 fun q z hz => ⟨?_, fun _ => rfl⟩
    rw [contains_is, Nat.zero_add]
    have hm := sel_mem (fun s i => !tumbref2_follows (stf (x.take i) s.Id) s.Kind) x 0 q
    have hiff : ((q : Int) ∈ refs x) ↔ (!tumbref2_follows (stf (x.take q) z.Id) z.Kind) = true := by
      refine hm.trans ⟨?_, fun h => ⟨q, z, hz, by omega, h⟩⟩
      rintro ⟨k', z', h1, h2, h3⟩
      obtain rfl : k' = q := by omega
      rw [hz] at h1
      cases h1
      exact h3
    cases hf : tumbref2_follows (stf (x.take q) z.Id) z.Kind with
    | true => rw [hf] at hiff; simp at hiff; simp [hiff]
    | false => rw [hf] at hiff; simp at hiff; simp [hiff]
  rw [List.length_nil] at hloop
  rw [hloop, hkeep, List.nil_append, r1]; simp only [Option.bind_some]
  rw [A1]; simp only [Option.bind_some]
  rw [A2]; simp only [Option.bind_some]
  rw [hparts]; simp only [Option.bind_some]
  rw [m1]; simp only [Option.bind_some]
  rw [m2]; simp only [Option.bind_some]
  have hz : tumbkeep2_errs [0, 0, 0, 0, 0, 0] = 0 := by decide +kernel
  simp only [hz, eqBest_is, eqStep_is, ready_ok, Option.bind_some, joinR]
  rfl
end Go.Proofs.YtbmkfjgekokfcaaGreatDoor
