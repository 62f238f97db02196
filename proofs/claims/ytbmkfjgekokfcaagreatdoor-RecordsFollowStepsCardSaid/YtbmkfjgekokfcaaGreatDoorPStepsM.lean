/- Steps in their order, the steps that are not refused, and two lists of steps that become one. Conditions stand in each theorem. No program stands here but its twins. -/
import Derived.Test.YtbmkfjgekokfcaaGreatDoorPRecQ
namespace Go.Proofs.YtbmkfjgekokfcaaGreatDoor
open Go
theorem cmp_lt (p q : GStep) : record_compare p q < 0 ↔ p.At < q.At ∨ (p.At = q.At ∧ (cB p.Id q.Id < 0 ∨ (p.Id = q.Id ∧ p.Kind < q.Kind))) := by
  rw [compare_is]
  rcases cB_rng p.Id q.Id with h | h | h
  · have hne : p.Id ≠ q.Id := fun e => by rw [e, cB_refl] at h; omega
    simp only [h, hne, false_and, or_false]
    split <;> (try split) <;> (try split) <;> omega
  · have he : p.Id = q.Id := cB_zero h
    simp only [he, cB_refl, true_and, ne_eq, not_true_eq_false, if_false, Int.lt_irrefl, false_or]
    split <;> (try split) <;> (try split) <;> (try split) <;> (try split) <;> omega
  · have hne : p.Id ≠ q.Id := fun e => by rw [e, cB_refl] at h; omega
    simp only [h, hne, false_and, or_false]
    split <;> (try split) <;> (try split) <;> omega
theorem cmp_eq0 (p q : GStep) : record_compare p q = 0 ↔ p.At = q.At ∧ p.Id = q.Id ∧ p.Kind = q.Kind := by
  rw [compare_is]
  rcases cB_rng p.Id q.Id with h | h | h
  · have hne : p.Id ≠ q.Id := fun e => by rw [e, cB_refl] at h; omega
    simp only [h, hne, false_and, and_false, iff_false]
    split <;> (try split) <;> (try split) <;> omega
  · have he : p.Id = q.Id := cB_zero h
    simp only [he, cB_refl, true_and, ne_eq, not_true_eq_false, if_false, Int.lt_irrefl, false_or]
    split <;> (try split) <;> (try split) <;> (try split) <;> (try split) <;> omega
  · have hne : p.Id ≠ q.Id := fun e => by rw [e, cB_refl] at h; omega
    simp only [h, hne, false_and, and_false, iff_false]
    split <;> (try split) <;> (try split) <;> omega
theorem cmp_tri (p q : GStep) : record_compare p q < 0 ∨ record_compare q p < 0 ∨ (p.At = q.At ∧ p.Id = q.Id ∧ p.Kind = q.Kind) := by
  rw [cmp_lt, cmp_lt]
  have hf := cB_flip p.Id q.Id
  rcases cB_rng p.Id q.Id with h | h | h
  · by_cases h1 : p.At < q.At
    · exact .inl (.inl h1)
    · by_cases h2 : q.At < p.At
      · exact .inr (.inl (.inl h2))
      · exact .inl (.inr ⟨by omega, .inl (by omega)⟩)
  · have he : p.Id = q.Id := cB_zero h
    by_cases h1 : p.At < q.At
    · exact .inl (.inl h1)
    · by_cases h2 : q.At < p.At
      · exact .inr (.inl (.inl h2))
      · by_cases h3 : p.Kind < q.Kind
        · exact .inl (.inr ⟨by omega, .inr ⟨he, h3⟩⟩)
        · by_cases h4 : q.Kind < p.Kind
          · exact .inr (.inl (.inr ⟨by omega, .inr ⟨he.symm, h4⟩⟩))
          · exact .inr (.inr ⟨by omega, he, by omega⟩)
  · by_cases h1 : p.At < q.At
    · exact .inl (.inl h1)
    · by_cases h2 : q.At < p.At
      · exact .inr (.inl (.inl h2))
      · exact .inr (.inl (.inr ⟨by omega, .inl (by omega)⟩))
theorem cmp_irr (p : GStep) : ¬ record_compare p p < 0 := by
  rw [cmp_lt, cB_refl]
  omega
theorem cmp_trans {p q r : GStep} (h1 : record_compare p q < 0) (h2 : record_compare q r < 0) : record_compare p r < 0 := by
  rw [cmp_lt] at *
  rcases h1 with h1 | ⟨a1, h1⟩ <;> rcases h2 with h2 | ⟨a2, h2⟩
  · exact .inl (by omega)
  · exact .inl (by omega)
  · exact .inl (by omega)
  · refine .inr ⟨by omega, ?_⟩
    rcases h1 with h1 | ⟨b1, h1⟩ <;> rcases h2 with h2 | ⟨b2, h2⟩
    · exact .inl (cB_trans h1 h2)
    · exact .inl (by rw [← b2]; exact h1)
    · exact .inl (by rw [b1]; exact h2)
    · exact .inr ⟨b1.trans b2, by omega⟩
theorem cmp_congr {p q r : GStep} (h : p.At = q.At ∧ p.Id = q.Id ∧ p.Kind = q.Kind) (h1 : record_compare p r < 0) : record_compare q r < 0 := by
  rw [cmp_lt] at *
  obtain ⟨a, b, c⟩ := h
  rwa [a, b, c] at h1
theorem cmp_ntrans {p q r : GStep} (h1 : ¬ record_compare p q < 0) (h2 : ¬ record_compare q r < 0) : ¬ record_compare p r < 0 := by
  intro h
  rcases cmp_tri p q with h3 | h3 | h3
  · exact h1 h3
  · exact h2 (cmp_trans h3 h)
  · exact h2 (cmp_congr h3 h)
theorem cmp_good {l : List GStep} (h : ∀ x ∈ l, ∀ y ∈ l, (x.At = y.At ∧ x.Id = y.Id ∧ x.Kind = y.Kind) → x = y) : CmpGood record_compare l :=
  ⟨cmp_irr, fun _ _ _ => cmp_trans, fun _ _ _ => cmp_ntrans, fun x hx y hy h1 h2 => by
    rcases cmp_tri x y with h3 | h3 | h3
    · exact absurd h3 h1
    · exact absurd h3 h2
    · exact h x hx y hy h3⟩
abbrev StUp (l : List GStep) : Prop := l.Pairwise fun p q => record_compare p q < 0
theorem adj_up : ∀ l : List GStep, StAdj l → StUp l
  | [], _ => List.Pairwise.nil
  | [x], _ => List.pairwise_singleton _ _
  | x :: y :: l, h => by
    have h1 := adj_up (y :: l) (fun d p q r e => h (x :: d) p q r (by rw [e]; rfl))
    have h2 := h [] x y l rfl
    refine List.pairwise_cons.2 ⟨fun z hz => ?_, h1⟩
    rcases List.mem_cons.1 hz with rfl | hz
    · exact h2
    · exact cmp_trans h2 ((List.pairwise_cons.1 h1).1 z hz)
theorem up_adj {l : List GStep} (h : StUp l) : StAdj l := by
  intro d p q r e
  subst e
  have h1 := (List.pairwise_append.1 h).2.1
  exact (List.pairwise_cons.1 h1).1 q List.mem_cons_self
theorem up_eq {l : List GStep} (h : StUp l) : ∀ x ∈ l, ∀ y ∈ l, (x.At = y.At ∧ x.Id = y.Id ∧ x.Kind = y.Kind) → x = y := by
  induction h with
  | nil => intro x hx; cases hx
  | @cons a l h1 _ ih =>
    intro x hx y hy he
    rcases List.mem_cons.1 hx with rfl | hx'
    · rcases List.mem_cons.1 hy with rfl | hy'
      · rfl
      · have h3 := h1 y hy'
        have h4 := (cmp_eq0 x y).2 he
        omega
    · rcases List.mem_cons.1 hy with rfl | hy'
      · have h3 := h1 x hx'
        have h4 := (cmp_eq0 y x).2 ⟨he.1.symm, he.2.1.symm, he.2.2.symm⟩
        omega
      · exact ih x hx' y hy' he
theorem up_nodup {l : List GStep} (h : StUp l) : l.Nodup := List.Pairwise.imp (fun {a b} h e => by subst e; exact cmp_irr a h) h
theorem up_at {l : List GStep} (h : StUp l) : l.Pairwise fun p q => p.At ≤ q.At := List.Pairwise.imp (fun {a b} h => by rw [cmp_lt] at h; omega) h
theorem steps0_each (l : List GStep) : ∀ (ys : List GStep) (i : Nat), record_CheckSteps_l1 l (some 0) ys i = some 0 → ∀ x ∈ ys, record_checkStep x = some 0
  | [], _, _, x, hx => by cases hx
  | y :: ys, i, h, x, hx => by
    obtain ⟨e, e1, _, _⟩ := step_both y
    rw [record_CheckSteps_l1, e1] at h
    simp only [Option.bind_some, joinR] at h
    by_cases he : e = 0
    · subst he
      simp only [decide_true, Bool.not_true, Bool.false_eq_true, if_false] at h
      have h2 : record_CheckSteps_l1 l (some 0) ys (i + 1) = some 0 := by
        by_cases hi : 0 < (i : Int)
        · simp only [hi, decide_true, if_true] at h
          unfold Chk at h
          split at h
          · split at h
            · cases h
            · exact h
          · cases h
        · simp only [hi, decide_false, Bool.false_eq_true, if_false] at h
          exact h
      rcases List.mem_cons.1 hx with rfl | hx
      · exact e1
      · exact steps0_each l ys (i + 1) h2 x hx
    · simp only [he, decide_false, Bool.not_false, if_true] at h
      exact absurd (Option.some.inj h) he
theorem steps0_loop (l : List GStep) (hl : l.length ≤ 1000) (hc : ∀ x ∈ l, record_checkStep x = some 0) (ha : StAdj l) : ∀ (ys dn : List GStep), l = dn ++ ys → record_CheckSteps_l1 l (some 0) ys dn.length = some 0
  | [], _, _ => rfl
  | y :: ys, dn, h => by
    have hlen : l.length = dn.length + (ys.length + 1) := by rw [h]; simp
    have ih := steps0_loop l hl hc ha ys (dn ++ [y]) (by rw [h]; simp)
    rw [List.length_append, List.length_singleton] at ih
    rw [record_CheckSteps_l1, hc y (by rw [h]; simp)]
    simp only [Option.bind_some, joinR, decide_true, Bool.not_true, Bool.false_eq_true, if_false]
    rcases List.eq_nil_or_concat dn with hd | ⟨d, p, hd⟩
    · subst hd
      simpa using ih
    · rw [List.concat_eq_append] at hd
      have hdl : dn.length = d.length + 1 := by rw [hd]; simp
      have hn : nth l (W ((dn.length : Int) - 1)) = p := by
        rw [W_in (by omega) (by omega), h, hd]
        have : d ++ [p] ++ y :: ys = d ++ p :: (y :: ys) := by simp
        rw [this]
        exact nth_mid _ _ _ (by simp)
      have hpos : decide (0 < (dn.length : Int)) = true := decide_eq_true (by omega)
      have hlt := ha d p y ys (by rw [h, hd]; simp)
      simp only [hpos, if_true]
      rw [chkT (inB_iff.2 (by rw [W_in (by omega) (by omega)]; omega)), hn]
      simp only [show ¬ 0 ≤ record_compare p y by omega, decide_false, Bool.false_eq_true, if_false]
      exact ih
theorem check_up {l : List GStep} (h : record_CheckSteps l = some 0) : l.length ≤ 1000 ∧ (∀ x ∈ l, StG x) ∧ StUp l ∧ ∀ x ∈ l, record_checkStep x = some 0 := by
  obtain ⟨e, e1, _, e3⟩ := steps_both l
  have he : e = 0 := by rw [h] at e1; exact (Option.some.inj e1).symm
  obtain ⟨h1, h2, h3⟩ := e3 he
  refine ⟨h1, h2, adj_up l h3, ?_⟩
  unfold record_CheckSteps at h
  rw [if_neg (by simp; omega)] at h
  exact steps0_each l l 0 h
theorem up_check {l : List GStep} (hl : l.length ≤ 1000) (hu : StUp l) (hc : ∀ x ∈ l, record_checkStep x = some 0) : record_CheckSteps l = some 0 := by
  unfold record_CheckSteps
  rw [if_neg (by simp; omega)]
  exact steps0_loop l hl hc (up_adj hu) l [] rfl
theorem sub_check {x y : List GStep} (h : y.Sublist x) (hx : record_CheckSteps x = some 0) : record_CheckSteps y = some 0 := by
  obtain ⟨h1, _, h3, h4⟩ := check_up hx
  have := h.length_le
  exact up_check (by omega) (List.Pairwise.sublist h h3) fun z hz => h4 z (h.subset hz)
theorem snocInd {α : Type} {Q : List α → Prop} (h0 : Q []) (h1 : ∀ l y, Q l → Q (l ++ [y])) (l : List α) : Q l := by
  have key : ∀ r : List α, Q r.reverse := by
    intro r
    induction r with
    | nil => exact h0
    | cons y r ih => rw [List.reverse_cons]; exact h1 _ _ ih
  have := key l.reverse
  rwa [List.reverse_reverse] at this
def keepS (u : List GStep) : List GStep := sel (fun s i => tumbref2_follows (stf (u.take i) s.Id) s.Kind) (fun s _ => s) u 0
theorem keepS_snoc (p : List GStep) (y : GStep) : keepS (p ++ [y]) = if tumbref2_follows (stf p y.Id) y.Kind then keepS p ++ [y] else keepS p := by
  unfold keepS
  rw [sel_app]
  have h1 : sel (fun s i => tumbref2_follows (stf ((p ++ [y]).take i) s.Id) s.Kind) (fun s _ => s) p 0 = sel (fun s i => tumbref2_follows (stf (p.take i) s.Id) s.Kind) (fun s _ => s) p 0 :=
    sel_congr p 0 fun k z hz => by
      have hk : k < p.length := (List.getElem?_eq_some_iff.1 hz).1
      refine ⟨?_, fun _ => rfl⟩
      rw [List.take_append_of_le_length (by omega)]
  rw [h1]
  simp only [sel, Nat.zero_add, List.take_left']
  cases tumbref2_follows (stf p y.Id) y.Kind <;> simp
theorem sel_sub {α : Type} (P : α → Nat → Bool) : ∀ (l : List α) (i : Nat), (sel P (fun y _ => y) l i).Sublist l
  | [], _ => List.Sublist.refl _
  | y :: l, i => by
    unfold sel
    split
    · exact (sel_sub P l (i + 1)).cons_cons y
    · exact (sel_sub P l (i + 1)).cons y
theorem keepS_sub (u : List GStep) : (keepS u).Sublist u := sel_sub _ u 0
theorem stf_keep (u : List GStep) (id : ByteArray) : stf (keepS u) id = stf u id := by
  induction u using snocInd with
  | h0 => rfl
  | h1 p y ih =>
    rw [keepS_snoc, stf_snoc]
    cases hf : tumbref2_follows (stf p y.Id) y.Kind with
    | true => rw [if_pos rfl, stf_snoc, ih]
    | false =>
      rw [if_neg (by simp), ih]
      by_cases he : y.Id = id
      · rw [he] at hf; simp [hf]
      · simp [he]
theorem firsts_keep (u : List GStep) : firsts (keepS u) = firsts u := by
  induction u using snocInd with
  | h0 => rfl
  | h1 p y ih =>
    rw [keepS_snoc, firsts_snoc]
    cases hf : tumbref2_follows (stf p y.Id) y.Kind with
    | true => rw [if_pos rfl, firsts_snoc, ih, stf_keep]
    | false =>
      rw [if_neg (by simp), ih]
      by_cases hk : y.Kind = 1
      · rw [hk] at hf
        have : decide (stf p y.Id = 0) = false := by simpa [tumbref2_follows] using hf
        simp [this]
      · simp [hk]
theorem refs_keep (u : List GStep) : refs (keepS u) = [] := by
  induction u using snocInd with
  | h0 => rfl
  | h1 p y ih =>
    rw [keepS_snoc]
    cases hf : tumbref2_follows (stf p y.Id) y.Kind with
    | true => rw [if_pos rfl, refs_snoc, stf_keep, hf, if_pos rfl, ih]
    | false => rw [if_neg (by simp), ih]
theorem valS_keep (k : GKind) (u : List GStep) : valS k (keepS u) = valS k u := by
  unfold valS
  simp only [firsts_keep, stf_keep]
theorem allS_keep (k : List GKind) (u : List GStep) : allS k (keepS u) = allS k u := by
  unfold allS
  simp only [valS_keep]
theorem upS_all {l : List GStep} {t : Int} (h : ∀ x ∈ l, x.At ≤ t) : upS l t = l := List.filter_eq_self.2 fun x hx => decide_eq_true (h x hx)
theorem upS_snoc_no {l : List GStep} {y : GStep} {t : Int} (h : ¬ y.At ≤ t) : upS (l ++ [y]) t = upS l t := by simp [upS, h]
theorem upS_keep (t : Int) (u : List GStep) (hu : u.Pairwise fun p q => p.At ≤ q.At) : upS (keepS u) t = keepS (upS u t) := by
  induction u using snocInd with
  | h0 => rfl
  | h1 p y ih =>
    have hp := List.pairwise_append.1 hu
    by_cases hy : y.At ≤ t
    · have hall : ∀ x ∈ p ++ [y], x.At ≤ t := fun x hx => by
        rcases List.mem_append.1 hx with h | h
        · have := hp.2.2 x h y (by simp); omega
        · rw [List.mem_singleton] at h; subst h; exact hy
      rw [upS_all hall, upS_all fun x hx => hall x ((keepS_sub _).subset hx)]
    · rw [upS_snoc_no hy, keepS_snoc, ← ih hp.1]
      split
      · exact upS_snoc_no hy
      · rfl
end Go.Proofs.YtbmkfjgekokfcaaGreatDoor
