/- Records and their history: the program's are the reference's. No program stands here but its twins. -/
import Derived.Test.YtbmkfjgekokfcaaGreatDoorPRecW
namespace Go.Proofs.YtbmkfjgekokfcaaGreatDoor
open Go
def valS (k : GKind) (u : List GStep) : List GBest := ((firsts u).filter fun s => record_isFor k s && !decide (stf u s.Id = 3)).map fun s => GBest.mk k.Key s.Id s.Who s.Time s.At (decide (stf u s.Id = 2))
theorem val_fol {k : GKind} {u : List GStep} {sw : List Grecord_swum} (h : Fol u sw) : (sw.filter fun y => !(y.void_ || !record_isFor k y.s_)).map (fun y => record_best k y.s_ y.sure_ y.void_) = valS k u := by
  unfold valS
  rw [← h.steps, List.filter_map, List.map_map]
  have key : ∀ l : List Grecord_swum, (∀ y ∈ l, code y = stf u y.s_.Id) → (l.filter fun y => !(y.void_ || !record_isFor k y.s_)).map (fun y => record_best k y.s_ y.sure_ y.void_) =
      (l.filter (fun y => record_isFor k y.s_ && !decide (stf u y.s_.Id = 3))).map (fun y => GBest.mk k.Key y.s_.Id y.s_.Who y.s_.Time y.s_.At (decide (stf u y.s_.Id = 2))) := by
    intro l
    induction l with
    | nil => intro _; rfl
    | cons y l ih =>
      intro hm
      have ih := ih fun z hz => hm z (List.mem_cons_of_mem _ hz)
      have hy := hm y List.mem_cons_self
      have h3 : decide (stf u y.s_.Id = 3) = y.void_ := by
        rw [← hy]; unfold code
        cases y.void_ <;> cases y.sure_ <;> rfl
      have h2 : y.void_ = false → decide (stf u y.s_.Id = 2) = y.sure_ := by
        intro hv
        rw [← hy]; unfold code; rw [hv]
        cases y.sure_ <;> rfl
      have h4 : (!(y.void_ || !record_isFor k y.s_)) = (record_isFor k y.s_ && !decide (stf u y.s_.Id = 3)) := by
        rw [h3]
        cases y.void_ <;> cases record_isFor k y.s_ <;> rfl
      simp only [List.filter_cons, h4]
      cases hc : (record_isFor k y.s_ && !decide (stf u y.s_.Id = 3)) with
      | false => simpa using ih
      | true =>
        simp only [if_true, List.map_cons, ih]
        have hv : y.void_ = false := by
          rw [h3] at hc
          cases hv : y.void_ with
          | false => rfl
          | true => rw [hv] at hc; simp at hc
        rw [h2 hv]
        rfl
  exact key sw h.marks
def histS (v : List GBest) : List GBest := sel (fun b i => !(v.take i).any fun o => decide (o.Time < b.Time)) (fun b _ => b) v 0
theorem histS_snoc (v : List GBest) (b : GBest) : histS (v ++ [b]) = if (v.any fun o => decide (o.Time < b.Time)) then histS v else histS v ++ [b] := by
  unfold histS
  rw [sel_app]
  have h1 : sel (fun b' i => !((v ++ [b]).take i).any fun o => decide (o.Time < b'.Time)) (fun b _ => b) v 0 = sel (fun b i => !(v.take i).any fun o => decide (o.Time < b.Time)) (fun b _ => b) v 0 :=
    sel_congr v 0 fun k z hz => by
      have hk : k < v.length := (List.getElem?_eq_some_iff.1 hz).1
      refine ⟨?_, fun _ => rfl⟩
      rw [List.take_append_of_le_length (by omega)]
  rw [h1]
  simp only [sel, Nat.zero_add, List.take_left']
  cases v.any fun o => decide (o.Time < b.Time) <;> simp
theorem hist_last : ∀ (n : Nat) (v : List GBest), v.length = n → (v = [] ∧ histS v = []) ∨ ∃ q c, histS v = q ++ [c] ∧ c ∈ v ∧ ∀ o ∈ v, c.Time ≤ o.Time
  | 0, v, h => .inl (by have := List.eq_nil_of_length_eq_zero h; subst this; exact ⟨rfl, rfl⟩)
  | n + 1, v, h => by
    right
    rcases List.eq_nil_or_concat v with rfl | ⟨d, b, rfl⟩
    · cases h
    · rw [List.concat_eq_append] at h ⊢
      rw [histS_snoc]
      have hd : d.length = n := by simpa using h
      cases hany : d.any fun o => decide (o.Time < b.Time) with
      | true =>
        simp only [if_true]
        obtain ⟨o, ho, ho2⟩ := List.any_eq_true.1 hany
        rcases hist_last n d hd with ⟨rfl, _⟩ | ⟨q, c, h1, h2, h3⟩
        · cases ho
        · refine ⟨q, c, h1, List.mem_append.2 (.inl h2), fun x hx => ?_⟩
          rcases List.mem_append.1 hx with hx | hx
          · exact h3 x hx
          · rw [List.mem_singleton] at hx
            subst hx
            have := h3 o ho
            have := of_decide_eq_true ho2
            omega
      | false =>
        simp only [Bool.false_eq_true, if_false]
        refine ⟨histS d, b, rfl, by simp, fun x hx => ?_⟩
        rcases List.mem_append.1 hx with hx | hx
        · have := List.any_eq_false.1 hany x hx
          simp at this
          omega
        · rw [List.mem_singleton] at hx
          subst hx
          exact Int.le_refl _
theorem histS_len (v : List GBest) : (histS v).length ≤ v.length := sel_len _ _ _ _
theorem history_loop (k : GKind) (all : List Grecord_swum) (hl : all.length ≤ 100000) : ∀ (ys dn : List Grecord_swum), all = dn ++ ys →
    record_history_l1 k (fun x => some x) ys dn.length (histS ((dn.filter fun y => !(y.void_ || !record_isFor k y.s_)).map fun y => record_best k y.s_ y.sure_ y.void_)) =
      some (histS ((all.filter fun y => !(y.void_ || !record_isFor k y.s_)).map fun y => record_best k y.s_ y.sure_ y.void_))
  | [], dn, h => by rw [List.append_nil] at h; subst h; rfl
  | y :: ys, dn, h => by
    have hlen : all.length = dn.length + (ys.length + 1) := by rw [h]; simp
    have ih := history_loop k all hl ys (dn ++ [y]) (by rw [h]; simp)
    rw [List.length_append, List.length_singleton, List.filter_append, List.map_append] at ih
    generalize hv : (dn.filter fun y => !(y.void_ || !record_isFor k y.s_)).map (fun y => record_best k y.s_ y.sure_ y.void_) = v at ih ⊢
    have hvl : v.length ≤ dn.length := by rw [← hv, List.length_map]; exact List.length_filter_le _ _
    have hhl := histS_len v
    rw [record_history_l1]
    simp only [joinR]
    cases hb : (y.void_ || !record_isFor k y.s_) with
    | true =>
      have e1 : [y].filter (fun y => !(y.void_ || !record_isFor k y.s_)) = [] := by simp only [List.filter_cons, hb]; rfl
      rw [e1, List.map_nil, List.append_nil] at ih
      cases hvo : y.void_ with
      | true => simpa using ih
      | false =>
        rw [hvo] at hb
        simp only [Bool.false_or] at hb
        simpa [hb] using ih
    | false =>
      have e1 : [y].filter (fun y => !(y.void_ || !record_isFor k y.s_)) = [y] := by simp only [List.filter_cons, hb]; rfl
      rw [e1, List.map_cons, List.map_nil, histS_snoc] at ih
      simp only [Bool.or_eq_false_iff] at hb
      obtain ⟨hv1, hv2⟩ := hb
      simp only [hv1, Bool.false_eq_true, if_false, hv2]
      have hbt : (record_best k y.s_ y.sure_ false).Time = y.s_.Time := rfl
      rw [hv1] at ih
      rcases hist_last v.length v rfl with ⟨h1, h2⟩ | ⟨q, c, h1, h2, h3⟩
      · rw [h2]
        rw [h1] at ih
        simp only [List.any_nil, Bool.false_eq_true, if_false] at ih
        simp only [List.length_nil, Int.natCast_zero, decide_true, Bool.true_or, if_true]
        rw [chkT (by decide)]
        rw [show histS [] = [] from rfl] at ih
        exact ih
      · have hne : ¬ ((histS v).length : Int) = 0 := by rw [h1]; simp; omega
        have hn : nth (histS v) (W (((histS v).length : Int) - 1)) = c := by
          rw [W_in (by omega) (by omega), h1]
          exact nth_mid q c [] (by simp)
        simp only [hne, decide_false, Bool.false_eq_true, if_false, Bool.false_or]
        rw [chkT (inB_iff.2 (by rw [W_in (by omega) (by omega)]; omega)), hn]
        have hany : (v.any fun o => decide (o.Time < (record_best k y.s_ y.sure_ false).Time)) = !decide (y.s_.Time ≤ c.Time) := by
          rw [hbt]
          by_cases hc : y.s_.Time ≤ c.Time
          · rw [decide_eq_true hc]
            exact List.any_eq_false.2 fun o ho => by have := h3 o ho; simp; omega
          · rw [decide_eq_false hc]
            exact List.any_eq_true.2 ⟨c, h2, by simp; omega⟩
        rw [hany] at ih
        by_cases hc : y.s_.Time ≤ c.Time
        · simp only [hc, decide_true, Bool.not_true, Bool.false_eq_true, if_false, if_true] at ih ⊢
          rw [chkT (by unfold room; simp; omega)]
          exact ih
        · simp only [hc, decide_false, Bool.not_false, if_true, Bool.false_eq_true, if_false] at ih ⊢
          exact ih
theorem history_is (k : GKind) {u : List GStep} {sw : List Grecord_swum} (hu : u.length ≤ 1000) (h : Fol u sw) : record_history k sw = some (histS (valS k u)) := by
  have hl : sw.length ≤ 1000 := by
    have h1 := congrArg List.length h.steps
    rw [List.length_map] at h1
    have := firsts_len u
    omega
  unfold record_history
  have := history_loop k sw (by omega) sw [] rfl
  rw [val_fol h] at this
  exact this
def recS (v : List GBest) : List GBest := v.filter fun b => !(v.any fun o => decide (o.Time < b.Time))
theorem sel_filter {α : Type} (P : α → Nat → Bool) (Q : α → Bool) : ∀ (l : List α) (i : Nat), (∀ k y, l[k]? = some y → Q y = true → P y (i + k) = true) → (sel P (fun y _ => y) l i).filter Q = l.filter Q
  | [], _, _ => rfl
  | y :: l, i, h => by
    have ih := sel_filter P Q l (i + 1) fun k z hz => by
      have := h (k + 1) z (by simpa using hz)
      rwa [show i + (k + 1) = i + 1 + k by omega] at this
    unfold sel
    cases hq : Q y with
    | true =>
      rw [if_pos (show P y i = true from h 0 y rfl hq), List.filter_cons, List.filter_cons, hq, ih]
    | false =>
      rw [List.filter_cons, hq]
      split
      · rw [List.filter_cons, hq]; exact ih
      · exact ih
theorem hist_down : ∀ (n : Nat) (v : List GBest), v.length = n → ∀ a x y b, histS v = a ++ x :: y :: b → y.Time ≤ x.Time
  | 0, v, h, a, x, y, b, e => by
    have := List.eq_nil_of_length_eq_zero h
    subst this
    exact absurd e (by simp [histS, sel])
  | n + 1, v, h, a, x, y, b, e => by
    rcases List.eq_nil_or_concat v with rfl | ⟨d, z, rfl⟩
    · cases h
    · rw [List.concat_eq_append] at h e
      have hd : d.length = n := by simpa using h
      rw [histS_snoc] at e
      cases hany : d.any fun o => decide (o.Time < z.Time) with
      | true => rw [hany] at e; exact hist_down n d hd a x y b (by simpa using e)
      | false =>
        rw [hany] at e
        simp only [Bool.false_eq_true, if_false] at e
        rcases List.eq_nil_or_concat b with rfl | ⟨b', w, rfl⟩
        · have h' : histS d ++ [z] = (a ++ [x]) ++ [y] := by rw [e]; simp
          obtain ⟨h4, h5⟩ := List.append_inj' h' rfl
          have hz : z = y := by simpa using h5
          subst hz
          have hx : x ∈ d := by
            rcases hist_last n d hd with ⟨h6, h7⟩ | ⟨q, c, h6, h7, _⟩
            · rw [h7] at h4; simp at h4
            · rw [h6] at h4
              have := (List.append_inj' h4 rfl).2
              have hc : c = x := by simpa using this
              rw [← hc]; exact h7
          have := List.any_eq_false.1 hany x hx
          simp at this
          omega
        · rw [List.concat_eq_append] at e
          have h' : histS d ++ [z] = (a ++ x :: y :: b') ++ [w] := by rw [e]; simp
          exact hist_down n d hd a x y b' (List.append_inj' h' rfl).1
theorem down_all {h : List GBest} (hd : ∀ a x y b, h = a ++ x :: y :: b → y.Time ≤ x.Time) : ∀ (b a : List GBest) (x : GBest), h = a ++ x :: b → ∀ y ∈ b, y.Time ≤ x.Time
  | [], _, _, _, _, hy => by cases hy
  | z :: b, a, x, e, y, hy => by
    have h1 := hd a x z b e
    rcases List.mem_cons.1 hy with rfl | hy
    · exact h1
    · exact Int.le_trans (down_all hd b (a ++ [x]) z (by rw [e]; simp) y hy) h1
theorem record_loop (h : List GBest) (hl : h.length ≤ 100000) (q : List GBest) (c : GBest) (hq : h = q ++ [c]) (hd : ∀ a x y b, h = a ++ x :: y :: b → y.Time ≤ x.Time) : ∀ (ys dn : List GBest), h = dn ++ ys → (∀ x ∈ dn, x.Time ≠ c.Time) →
    record_record_l1 h (some []) ys dn.length = some (h.filter fun b => decide (b.Time = c.Time))
  | [], dn, e, h1 => by
    rw [List.append_nil] at e
    subst e
    exact absurd rfl (h1 c (by rw [hq]; simp))
  | y :: ys, dn, e, h1 => by
    have hlen : h.length = dn.length + (ys.length + 1) := by rw [e]; simp
    have hn : nth h (W ((h.length : Int) - 1)) = c := by
      rw [W_in (by omega) (by omega)]
      conv => lhs; arg 1; rw [hq]
      exact nth_mid q c [] (by rw [hq]; simp)
    rw [record_record_l1, chkT (inB_iff.2 (by rw [W_in (by omega) (by omega)]; omega)), hn]
    by_cases hc : y.Time = c.Time
    · rw [if_pos (decide_eq_true hc), chkT (cutB_iff.2 (by omega))]
      congr 1
      have e1 : cut h (dn.length : Int) h.length = y :: ys := by
        unfold cut
        rw [List.take_of_length_le (by omega), e]
        simp
      rw [e1]
      have e2 : dn.filter (fun b => decide (b.Time = c.Time)) = [] := List.filter_eq_nil_iff.2 fun x hx => by simp [h1 x hx]
      have hle := down_all hd ys dn y e
      have hge : ∀ x ∈ h, c.Time ≤ x.Time := by
        intro x hx
        rw [hq] at hx
        rcases List.mem_append.1 hx with hx | hx
        · obtain ⟨a, b, rfl⟩ := List.append_of_mem hx
          exact down_all hd (b ++ [c]) a x (by rw [hq]; simp) c (by simp)
        · rw [List.mem_singleton] at hx; subst hx; exact Int.le_refl _
      have e3 : (y :: ys).filter (fun b => decide (b.Time = c.Time)) = y :: ys := List.filter_eq_self.2 fun x hx => by
        have h5 := hge x (by rw [e]; exact List.mem_append.2 (.inr hx))
        rcases List.mem_cons.1 hx with rfl | hx
        · exact decide_eq_true hc
        · have := hle x hx
          exact decide_eq_true (by omega)
      conv => rhs; arg 2; rw [e]
      rw [List.filter_append, e2, e3, List.nil_append]
    · rw [if_neg (by simpa using hc)]
      have := record_loop h hl q c hq hd ys (dn ++ [y]) (by rw [e]; simp) (fun x hx => by
        rcases List.mem_append.1 hx with hx | hx
        · exact h1 x hx
        · rw [List.mem_singleton] at hx; subst hx; exact hc)
      rwa [List.length_append, List.length_singleton] at this
theorem rec_min (v : List GBest) (c : GBest) (hc : c ∈ v) (hm : ∀ o ∈ v, c.Time ≤ o.Time) : recS v = v.filter fun b => decide (b.Time = c.Time) := by
  unfold recS
  refine List.filter_congr fun b hb => ?_
  have hb2 := hm b hb
  by_cases h : b.Time = c.Time
  · rw [decide_eq_true h]
    have : (v.any fun o => decide (o.Time < b.Time)) = false := List.any_eq_false.2 fun o ho => by have := hm o ho; simp; omega
    rw [this]; rfl
  · rw [decide_eq_false h]
    have : (v.any fun o => decide (o.Time < b.Time)) = true := List.any_eq_true.2 ⟨c, hc, by simp; omega⟩
    rw [this]; rfl
theorem recS_hist (v : List GBest) {q : List GBest} {c : GBest} (hq : histS v = q ++ [c]) (hc : c ∈ v) (hm : ∀ o ∈ v, c.Time ≤ o.Time) : (histS v).filter (fun b => decide (b.Time = c.Time)) = recS v := by
  rw [rec_min v c hc hm]
  refine sel_filter _ _ v 0 fun k y hy hyt => ?_
  have := of_decide_eq_true hyt
  have h2 : ((v.take (0 + k)).any fun o => decide (o.Time < y.Time)) = false := List.any_eq_false.2 fun o ho => by
    have := hm o (List.mem_of_mem_take ho)
    simp
    omega
  show (!(v.take (0 + k)).any fun o => decide (o.Time < y.Time)) = true
  rw [h2]
  rfl
theorem record_is (k : GKind) {u : List GStep} {sw : List Grecord_swum} (hu : u.length ≤ 1000) (h : Fol u sw) : record_record k sw = some (recS (valS k u)) := by
  unfold record_record
  rw [history_is k hu h]
  simp only [Option.bind_some, joinR]
  have hvl : (valS k u).length ≤ 1000 := by
    unfold valS
    rw [List.length_map]
    have h1 := List.length_filter_le (fun s => record_isFor k s && !decide (stf u s.Id = 3)) (firsts u)
    have := firsts_len u
    omega
  have hhl := histS_len (valS k u)
  rcases hist_last _ (valS k u) rfl with ⟨h1, h2⟩ | ⟨q, c, h1, h2, h3⟩
  · rw [h2, h1]
    rfl
  · have := record_loop (histS (valS k u)) (by omega) q c h1 (hist_down _ (valS k u) rfl) (histS (valS k u)) [] rfl (fun _ h => by cases h)
    rw [recS_hist _ h1 h2 h3] at this
    exact this
theorem valS_len (k : GKind) (u : List GStep) : (valS k u).length ≤ u.length := by
  unfold valS
  rw [List.length_map]
  exact Nat.le_trans (List.length_filter_le _ _) (firsts_len u)
theorem recS_len (v : List GBest) : (recS v).length ≤ v.length := List.length_filter_le _ _
end Go.Proofs.YtbmkfjgekokfcaaGreatDoor
