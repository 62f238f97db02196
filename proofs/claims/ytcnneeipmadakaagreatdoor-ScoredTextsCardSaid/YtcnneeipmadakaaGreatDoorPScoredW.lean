/- Ranks of races: wrong ranks, too many of one rank, within a race; the program's check is the reference's. Conditions: as in PScored. -/
import Derived.Test.YtcnneeipmadakaaGreatDoorPScoredF
namespace Go.Proofs.YtcnneeipmadakaaGreatDoor
open Go
structure Gr (g : List GScored) : Prop where
  race : ∀ x ∈ g, ∀ y ∈ g, x.Race = y.Race
  ord : g.Pairwise fun x y => lexS x y = true
  rr : ∀ x ∈ g, RR x
  len : g.length ≤ 1000
theorem Gr.le {g : List GScored} (h : Gr g) : g.Pairwise fun x y => kR x ≤ kR y := by
  have h2 : g.Pairwise fun x y => x.Race = y.Race := by
    rw [List.pairwise_iff_getElem]
    exact fun i j hi hj _ => h.race _ (List.getElem_mem hi) _ (List.getElem_mem hj)
  refine (h.ord.and h2).imp ?_
  rintro x y ⟨a, b⟩
  rcases lexS_iff.1 a with a | ⟨_, a⟩
  · rw [b, cB_refl] at a; omega
  · omega
theorem kR_pos {x : GScored} (h : RR x) (h' : 0 < x.Rank) : kR x = x.Rank := by unfold kR; rw [if_neg (by omega)]
theorem kR_small {x : GScored} (h : RR x) (h' : kR x ≤ 300) : kR x = x.Rank ∧ 0 < x.Rank := by
  have := h.1
  unfold kR at h' ⊢
  split at h'
  · omega
  · rename_i hz
    rw [if_neg hz]; omega
theorem before_pre {g dn ys : List GScored} {y : GScored} (h : Gr g) (hg : g = dn ++ y :: ys) (hp : 0 < y.Rank) : before g y = dn.countP fun o => decide (0 < o.Rank) && decide (o.Rank < y.Rank) := by
  have hy : y ∈ g := by rw [hg]; simp
  have hle := h.le
  rw [hg, List.pairwise_append, List.pairwise_cons] at hle
  have ky := kR_pos (h.rr y hy) hp
  unfold before
  rw [hg, List.countP_append, List.countP_cons]
  have z : ys.countP (fun o => decide (o.Race = y.Race) && (decide (0 < o.Rank) && decide (o.Rank < y.Rank))) = 0 := by
    rw [List.countP_eq_zero]
    intro o ho
    have h1 := hle.2.1.1 o ho
    simp only [Bool.and_eq_true, decide_eq_true_eq, not_and]
    intro _ h2 h3
    rw [kR_pos (h.rr o (by rw [hg]; simp [ho])) h2] at h1
    omega
  rw [z, if_neg (by simp), Nat.add_zero]
  refine List.countP_congr fun o ho => ?_
  rw [h.race o (by rw [hg]; simp [ho]) y hy]
  simp
theorem wrong_rank {g : List GScored} (h : Gr g) {x y : GScored} (hx : x ∈ g) (hy : y ∈ g) (e : x.Rank = y.Rank) : wrongE g x = wrongE g y := by
  unfold wrongE before
  rw [e, h.race x hx y hy]
theorem chk_l4 {g : List GScored} (h : Gr g) (j : Option Int) : ∀ (ys dn : List GScored), g = dn ++ ys → (∀ x ∈ dn, wrongE g x = false) → points_checkAll_l4 g j ys dn.length = if ys.any (wrongE g) then some 16 else j
  | [], _, _, _ => rfl
  | y :: ys, dn, hg, hw => by
    have hy : y ∈ g := by rw [hg]; simp
    have hdl : dn.length ≤ 1000 := by have := h.len; rw [hg] at this; simp at this; omega
    have hW : W ((dn.length : Int) + 1) = (dn.length : Int) + 1 := W_in (by omega) (by omega)
    have next : wrongE g y = false → points_checkAll_l4 g j ys (dn.length + 1) = if (y :: ys).any (wrongE g) then some 16 else j := by
      intro hf
      have ih := chk_l4 h j ys (dn ++ [y]) (by rw [hg]; simp) (fun x hx => by
        rcases List.mem_append.1 hx with hx | hx
        · exact hw x hx
        · obtain rfl := List.mem_singleton.1 hx; exact hf)
      rw [List.length_append, List.length_singleton] at ih
      rw [ih, List.any_cons, hf, Bool.false_or]
    have yes : wrongE g y = true → some (16 : Int) = if (y :: ys).any (wrongE g) then some 16 else j := by
      intro hf; rw [List.any_cons, hf, Bool.true_or, if_pos rfl]
    rw [points_checkAll_l4]
    simp only [join_eq, hW]
    cases hA : ((decide (0 < y.Rank)) && (!decide (y.Rank = (dn.length : Int) + 1))) with
    | false =>
      simp only [Bool.false_eq_true, if_false, Bool.false_and]
      refine next ?_
      by_cases hp : 0 < y.Rank
      · -- its rank is its place
        have e : y.Rank = (dn.length : Int) + 1 := by simpa [hp] using hA
        rcases List.eq_nil_or_concat dn with rfl | ⟨d, x, rfl⟩
        · unfold wrongE; rw [before_pre h hg hp, e]; simp
        · simp only [List.concat_eq_append] at *
          have hx : x ∈ g := by rw [hg]; simp
          by_cases hxy : x.Rank = y.Rank
          · rw [wrong_rank h hy hx hxy.symm]; exact hw x (by simp)
          · unfold wrongE
            rw [before_pre h hg hp]
            have all : (d ++ [x]).countP (fun o => decide (0 < o.Rank) && decide (o.Rank < y.Rank)) = (d ++ [x]).length := by
              rw [List.countP_eq_length]
              intro o ho
              have hle := h.le
              rw [hg, List.pairwise_append] at hle
              have ky := kR_pos (h.rr y hy) hp
              have k1 := hle.2.2 x (by simp) y (by simp)
              have yr := (h.rr y hy).2
              have k2 : kR x ≠ kR y := fun e2 => by
                have := (kR_small (h.rr x hx) (by omega)).1; omega
              have k3 : kR o ≤ kR x := by
                rcases List.mem_append.1 ho with ho | ho
                · have := hle.1; rw [List.pairwise_append] at this; exact this.2.2 o ho x (by simp)
                · obtain rfl := List.mem_singleton.1 ho; omega
              have k4 := kR_small (h.rr o (by rw [hg]; exact List.mem_append_left _ ho)) (by omega)
              simp only [Bool.and_eq_true, decide_eq_true_eq]
              omega
            rw [all, e]; simp
      · unfold wrongE; simp [hp]
    | true =>
      have hp : 0 < y.Rank := by simp at hA; exact hA.1
      have hne : y.Rank ≠ (dn.length : Int) + 1 := by simp at hA; exact hA.2
      simp only [if_true, Bool.true_and]
      rcases List.eq_nil_or_concat dn with rfl | ⟨d, x, rfl⟩
      · simp only [List.length_nil, Int.natCast_zero, decide_true, if_true, Bool.or_true]
        refine yes ?_
        unfold wrongE
        rw [before_pre h hg hp]
        simp only [List.countP_nil, Int.natCast_zero, hp, decide_true, Bool.true_and]
        simpa using hne
      · simp only [List.concat_eq_append] at *
        have hx : x ∈ g := by rw [hg]; simp
        have hlen : ((d ++ [x]).length : Int) = (d.length : Int) + 1 := by simp
        have hw1 : W (((d ++ [x]).length : Int) - 1) = (d.length : Int) := by
          rw [hlen, show (d.length : Int) + 1 - 1 = (d.length : Int) by omega, W_in (by omega) (by simp at hdl; omega)]
        have hn : nth g (d.length : Int) = x := by unfold nth; rw [hg]; simp
        have hin : inB (d.length : Int) g.length = true := by rw [inB_iff, hg]; simp; omega
        have h0 : decide (((d ++ [x]).length : Int) = 0) = false := by rw [hlen]; simp; omega
        rw [h0, hw1, hn]
        simp only [Bool.false_eq_true, if_false, chk_pos hin, Bool.false_or]
        by_cases hxy : x.Rank = y.Rank
        · rw [if_neg (by simp [hxy])]
          refine next ?_
          rw [wrong_rank h hy hx hxy.symm]; exact hw x (by simp)
        · rw [if_pos (by simp; exact fun e => hxy e.symm)]
          refine yes ?_
          unfold wrongE
          rw [before_pre h hg hp]
          have all : (d ++ [x]).countP (fun o => decide (0 < o.Rank) && decide (o.Rank < y.Rank)) = (d ++ [x]).length := by
            rw [List.countP_eq_length]
            intro o ho
            have hle := h.le
            rw [hg, List.pairwise_append] at hle
            have ky := kR_pos (h.rr y hy) hp
            have k1 := hle.2.2 x (by simp) y (by simp)
            have yr := (h.rr y hy).2
            have k2 : kR x ≠ kR y := fun e2 => by
              have := (kR_small (h.rr x hx) (by omega)).1; omega
            have k3 : kR o ≤ kR x := by
              rcases List.mem_append.1 ho with ho | ho
              · have := hle.1; rw [List.pairwise_append] at this; exact this.2.2 o ho x (by simp)
              · obtain rfl := List.mem_singleton.1 ho; omega
            have k4 := kR_small (h.rr o (by rw [hg]; exact List.mem_append_left _ ho)) (by omega)
            simp only [Bool.and_eq_true, decide_eq_true_eq]
            omega
          rw [all]
          simp [hp]
          simpa using hne
theorem chk_l3 (j : Option Int) : ∀ (Gs : List (List GScored)) (i : Nat), (∀ g ∈ Gs, Gr g) → points_checkAll_l3 j Gs i = if Gs.any (fun g => g.any (wrongE g)) then some 16 else j
  | [], _, _ => rfl
  | g :: Gs, i, h => by
    rw [points_checkAll_l3]
    simp only [join_eq]
    have e := chk_l4 (h g List.mem_cons_self) (points_checkAll_l3 j Gs (i + 1)) g [] rfl (fun _ hx => by cases hx)
    rw [List.length_nil] at e
    rw [e, chk_l3 j Gs (i + 1) (fun q hq => h q (List.mem_cons_of_mem _ hq)), List.any_cons]
    cases g.any (wrongE g) <;> simp
def fullAt (g : List GScored) (q : Nat) : Prop := ∃ (x z : GScored), 10 ≤ q ∧ g[q]? = some x ∧ g[q - 10]? = some z ∧ 0 < x.Rank ∧ x.Rank = z.Rank
theorem chk_l6 {g : List GScored} (hl : g.length ≤ 1000) (j : Option Int) : ∀ (d m i : Nat), g.length ≤ i + d → d < m → 10 ≤ i → ((∃ q, i ≤ q ∧ fullAt g q) → points_checkAll_l6 g j m (i : Int) = some 12) ∧ ((∀ q, i ≤ q → ¬ fullAt g q) → points_checkAll_l6 g j m (i : Int) = j)
  | d, 0, i, _, h, _ => by omega
  | d, m + 1, i, h1, h2, h3 => by
    rw [points_checkAll_l6]
    by_cases hi : i < g.length
    · rw [if_pos (decide_eq_true (by omega))]
      have hin : inB (i : Int) g.length = true := inB_iff.2 (by omega)
      have hw : W ((i : Int) - 10) = ((i - 10 : Nat) : Int) := by rw [W_in (by omega) (by omega)]; omega
      have hin2 : inB ((i - 10 : Nat) : Int) g.length = true := inB_iff.2 (by omega)
      have hw1 : W ((i : Int) + 1) = ((i + 1 : Nat) : Int) := by rw [W_in (by omega) (by omega)]; omega
      have e1 : g[i]? = some (nth g (i : Int)) := (inB_get hin).1
      have e2 : g[i - 10]? = some (nth g ((i - 10 : Nat) : Int)) := (inB_get hin2).1
      simp only [join_eq, hw, hw1, chk_pos hin, chk_pos hin2]
      obtain ⟨ih1, ih2⟩ := chk_l6 hl j (d - 1) m (i + 1) (by omega) (by omega) (by omega)
      by_cases hf : 0 < (nth g (i : Int)).Rank ∧ (nth g (i : Int)).Rank = (nth g ((i - 10 : Nat) : Int)).Rank
      · have he : (if decide (0 < (nth g (i : Int)).Rank) = true then (if (decide (0 < (nth g (i : Int)).Rank) && decide ((nth g (i : Int)).Rank = (nth g ((i - 10 : Nat) : Int)).Rank)) = true then some 12 else points_checkAll_l6 g j m ((i + 1 : Nat) : Int)) else (if (decide (0 < (nth g (i : Int)).Rank) && true) = true then some 12 else points_checkAll_l6 g j m ((i + 1 : Nat) : Int))) = some (12 : Int) := by
          simp [hf.1, hf.2]
          intro hn; have := hf.1; have := hf.2; omega
        rw [he]
        exact ⟨fun _ => rfl, fun hn => (hn i (Nat.le_refl _) ⟨_, _, h3, e1, e2, hf.1, hf.2⟩).elim⟩
      · have he : (if decide (0 < (nth g (i : Int)).Rank) = true then (if (decide (0 < (nth g (i : Int)).Rank) && decide ((nth g (i : Int)).Rank = (nth g ((i - 10 : Nat) : Int)).Rank)) = true then some 12 else points_checkAll_l6 g j m ((i + 1 : Nat) : Int)) else (if (decide (0 < (nth g (i : Int)).Rank) && true) = true then some 12 else points_checkAll_l6 g j m ((i + 1 : Nat) : Int))) = points_checkAll_l6 g j m ((i + 1 : Nat) : Int) := by
          by_cases hp : 0 < (nth g (i : Int)).Rank
          · have : ¬ (nth g (i : Int)).Rank = (nth g ((i - 10 : Nat) : Int)).Rank := fun e => hf ⟨hp, e⟩
            simp [hp, this]
          · simp [hp]
        rw [he]
        refine ⟨fun ⟨q, hq, hqf⟩ => ih1 ⟨q, ?_, hqf⟩, fun hn => ih2 fun q hq => hn q (by omega)⟩
        rcases Nat.lt_or_ge i q with g1 | g1
        · exact g1
        · exfalso
          have : q = i := by omega
          subst this
          obtain ⟨x, z, _, a1, a2, a3, a4⟩ := hqf
          rw [e1] at a1; rw [e2] at a2
          cases a1; cases a2
          exact hf ⟨a3, a4⟩
    · rw [if_neg (by simp; omega)]
      refine ⟨fun ⟨q, hq, x, z, _, a1, _⟩ => ?_, fun _ => rfl⟩
      rw [List.getElem?_eq_none (by omega)] at a1; cases a1
theorem first_of {r : Int} : ∀ (g : List GScored), (∃ y ∈ g, y.Rank = r) → ∃ a x b, g = a ++ x :: b ∧ (∀ z ∈ a, z.Rank ≠ r) ∧ x.Rank = r
  | [], h => by obtain ⟨y, hy, _⟩ := h; cases hy
  | y :: g, h => by
    by_cases hy : y.Rank = r
    · exact ⟨[], y, g, rfl, (fun _ hz => by cases hz), hy⟩
    · obtain ⟨a, x, b, e, h1, h2⟩ := first_of g (by
        obtain ⟨z, hz, e⟩ := h
        rcases List.mem_cons.1 hz with rfl | hz
        · exact (hy e).elim
        · exact ⟨z, hz, e⟩)
      refine ⟨y :: a, x, b, by rw [e]; rfl, fun z hz => ?_, h2⟩
      rcases List.mem_cons.1 hz with rfl | hz
      · exact hy
      · exact h1 z hz
theorem full_iff {g : List GScored} (h : Gr g) : (∃ q, 10 ≤ q ∧ fullAt g q) ↔ g.any (fullE g) = true := by
  have hle := List.pairwise_iff_getElem.1 h.le
  have mono : ∀ (i j : Nat) (x z : GScored), i ≤ j → g[i]? = some x → g[j]? = some z → kR x ≤ kR z := by
    intro i j x z hij hx hz
    obtain ⟨h1, rfl⟩ := List.getElem?_eq_some_iff.1 hx
    obtain ⟨h2, rfl⟩ := List.getElem?_eq_some_iff.1 hz
    rcases Nat.lt_or_ge i j with g1 | g1
    · exact hle i j h1 h2 g1
    · have : i = j := by omega
      subst this; exact Int.le_refl _
  have mem : ∀ (i : Nat) (x : GScored), g[i]? = some x → x ∈ g := fun i x hx => List.mem_of_getElem? hx
  rw [List.any_eq_true]
  constructor
  · rintro ⟨q, _, x, z, hq, hx, hz, hp, e⟩
    refine ⟨x, mem _ _ hx, ?_⟩
    unfold fullE sameR
    simp only [Bool.and_eq_true, decide_eq_true_eq]
    refine ⟨hp, ?_⟩
    have hql := (List.getElem?_eq_some_iff.1 hx).1
    have sub : ((g.drop (q - 10)).take 11).Sublist g := (List.take_sublist _ _).trans (List.drop_sublist _ _)
    have len : ((g.drop (q - 10)).take 11).length = 11 := by rw [List.length_take, List.length_drop]; omega
    have c := sub.countP_le (p := fun o : GScored => decide (o.Race = x.Race) && decide (o.Rank = x.Rank))
    have all : ((g.drop (q - 10)).take 11).countP (fun o => decide (o.Race = x.Race) && decide (o.Rank = x.Rank)) = ((g.drop (q - 10)).take 11).length := by
      rw [List.countP_eq_length]
      intro o ho
      obtain ⟨t, ht⟩ := List.getElem?_of_mem ho
      have htl : t < 11 := by rw [← len]; exact (List.getElem?_eq_some_iff.1 ht).1
      rw [List.getElem?_take_of_lt htl, List.getElem?_drop] at ht
      have k1 := mono (q - 10) (q - 10 + t) z o (by omega) hz ht
      have k2 := mono (q - 10 + t) q o x (by omega) ht hx
      have xr := h.rr x (mem _ _ hx)
      have kx := kR_pos xr hp
      have kz := kR_pos (h.rr z (mem _ _ hz)) (by omega)
      have := (kR_small (h.rr o (mem _ _ ht)) (by have := xr.2; omega)).1
      simp only [Bool.and_eq_true, decide_eq_true_eq]
      exact ⟨h.race o (mem _ _ ht) x (mem _ _ hx), by omega⟩
    rw [all, len] at c
    omega
  · rintro ⟨y, hy, hf⟩
    unfold fullE sameR at hf
    simp only [Bool.and_eq_true, decide_eq_true_eq] at hf
    obtain ⟨hp, hc⟩ := hf
    obtain ⟨a, x, b, e, h1, h2⟩ := first_of g ⟨y, hy, rfl⟩
    rcases Classical.em (∃ z ∈ (x :: b).drop 10, z.Rank = y.Rank) with ⟨z, hz, hzr⟩ | hno
    · obtain ⟨t, ht⟩ := List.getElem?_of_mem hz
      rw [List.getElem?_drop] at ht
      have hz' : g[a.length + 10 + t]? = some z := by rw [e, List.getElem?_append_right (by omega)]; rw [← ht]; congr 1; omega
      have hx' : g[a.length]? = some x := by rw [e]; simp
      have hlt := (List.getElem?_eq_some_iff.1 hz').1
      obtain ⟨u, hu⟩ : ∃ u, g[a.length + t]? = some u := ⟨g[a.length + t]'(by omega), by simp⟩
      have k1 := mono a.length (a.length + t) x u (by omega) hx' hu
      have k2 := mono (a.length + t) (a.length + 10 + t) u z (by omega) hu hz'
      have yr := (h.rr y hy).2
      have kx := kR_pos (h.rr x (mem _ _ hx')) (by omega)
      have kz := kR_pos (h.rr z (mem _ _ hz')) (by omega)
      have := (kR_small (h.rr u (mem _ _ hu)) (by omega)).1
      exact ⟨a.length + 10 + t, by omega, z, u, by omega, hz', by rw [show a.length + 10 + t - 10 = a.length + t by omega]; exact hu, by omega, by omega⟩
    · exfalso
      have c1 : a.countP (fun o => decide (o.Race = y.Race) && decide (o.Rank = y.Rank)) = 0 := by
        rw [List.countP_eq_zero]; intro o ho; simp [h1 o ho]
      have c2 : ((x :: b).drop 10).countP (fun o => decide (o.Race = y.Race) && decide (o.Rank = y.Rank)) = 0 := by
        rw [List.countP_eq_zero]; intro o ho
        have : o.Rank ≠ y.Rank := fun e => hno ⟨o, ho, e⟩
        simp [this]
      have c3 : ((x :: b).take 10).countP (fun o => decide (o.Race = y.Race) && decide (o.Rank = y.Rank)) ≤ 10 := Nat.le_trans List.countP_le_length (by rw [List.length_take]; omega)
      have c4 := congrArg (List.countP fun o => decide (o.Race = y.Race) && decide (o.Rank = y.Rank)) (List.take_append_drop 10 (x :: b))
      rw [List.countP_append] at c4
      rw [e, List.countP_append] at hc
      omega
theorem chk_l5 (j : Option Int) : ∀ (Gs : List (List GScored)) (i : Nat), (∀ g ∈ Gs, Gr g) → points_checkAll_l5 j Gs i = if Gs.any (fun g => g.any (fullE g)) then some 12 else j
  | [], _, _ => rfl
  | g :: Gs, i, h => by
    have hg := h g List.mem_cons_self
    rw [points_checkAll_l5]
    simp only [join_eq]
    obtain ⟨e1, e2⟩ := chk_l6 hg.len (points_checkAll_l5 j Gs (i + 1)) (g.length - 10) (((g.length : Int) - 10).toNat + 2) 10 (by omega) (by omega) (Nat.le_refl _)
    rw [List.any_cons]
    cases hf : g.any (fullE g) with
    | true => rw [Bool.true_or, if_pos rfl]; exact e1 ((full_iff hg).2 hf)
    | false =>
      rw [Bool.false_or]
      refine (e2 fun q hq hn => ?_).trans (chk_l5 j Gs (i + 1) (fun q hq => h q (List.mem_cons_of_mem _ hq)))
      rw [(full_iff hg).1 ⟨q, hq, hn⟩] at hf; cases hf
theorem any_flat {α : Type} (p : α → Bool) : ∀ (Gs : List (List α)), Gs.flatten.any p = Gs.any fun g => g.any p
  | [] => rfl
  | g :: Gs => by rw [List.flatten_cons, List.any_append, List.any_cons, any_flat p Gs]
theorem any_congr {α : Type} {p q : α → Bool} : ∀ (l : List α), (∀ x ∈ l, p x = q x) → l.any p = l.any q
  | [], _ => rfl
  | x :: l, h => by rw [List.any_cons, List.any_cons, h x List.mem_cons_self, any_congr l fun y hy => h y (List.mem_cons_of_mem _ hy)]
section
variable {Gs : List (List GScored)} (h2 : Gs.Pairwise (fun g g' => ∀ x ∈ g, ∀ y ∈ g', x.Race ≠ y.Race))
include h2
theorem split_grp {g : List GScored} (hg : g ∈ Gs) {y : GScored} (hy : y ∈ g) : ∃ P Q : List GScored, Gs.flatten = P ++ (g ++ Q) ∧ (∀ o ∈ P, o.Race ≠ y.Race) ∧ (∀ o ∈ Q, o.Race ≠ y.Race) := by
  obtain ⟨P, Q, rfl⟩ := List.append_of_mem hg
  rw [List.pairwise_append, List.pairwise_cons] at h2
  refine ⟨P.flatten, Q.flatten, by simp, fun o ho => ?_, fun o ho => ?_⟩
  · obtain ⟨g', hg', ho⟩ := List.mem_flatten.1 ho
    exact h2.2.2 g' hg' g (by simp) o ho y hy
  · obtain ⟨g', hg', ho⟩ := List.mem_flatten.1 ho
    exact fun e => h2.2.1.1 g' hg' y hy o ho e.symm
theorem count_loc {g : List GScored} (hg : g ∈ Gs) {y : GScored} (hy : y ∈ g) (q : GScored → Bool) : Gs.flatten.countP (fun o => decide (o.Race = y.Race) && q o) = g.countP (fun o => decide (o.Race = y.Race) && q o) := by
  obtain ⟨P, Q, e, h3, h4⟩ := split_grp h2 hg hy
  rw [e, List.countP_append, List.countP_append]
  have z : ∀ l : List GScored, (∀ o ∈ l, o.Race ≠ y.Race) → l.countP (fun o => decide (o.Race = y.Race) && q o) = 0 := fun l hl => by
    rw [List.countP_eq_zero]; intro o ho; simp [hl o ho]
  rw [z P h3, z Q h4]; omega
theorem any_loc {g : List GScored} (hg : g ∈ Gs) {y : GScored} (hy : y ∈ g) (q : GScored → Bool) : Gs.flatten.any (fun o => decide (o.Race = y.Race) && q o) = g.any (fun o => decide (o.Race = y.Race) && q o) := by
  obtain ⟨P, Q, e, h3, h4⟩ := split_grp h2 hg hy
  rw [e, List.any_append, List.any_append]
  have z : ∀ l : List GScored, (∀ o ∈ l, o.Race ≠ y.Race) → l.any (fun o => decide (o.Race = y.Race) && q o) = false := fun l hl => by
    rw [List.any_eq_false]; intro o ho; simp [hl o ho]
  rw [z P h3, z Q h4]; simp
end
theorem mix_grp {g : List GScored} (h : One g) : (g.any fun y => g.any fun o => decide (o.Race = y.Race) && !decide (o.Relay = y.Relay)) = mixG g := by
  obtain ⟨h0, hr⟩ := h
  obtain ⟨z, r, rfl⟩ : ∃ z r, g = z :: r := by
    cases g with
    | nil => exact (h0 rfl).elim
    | cons z r => exact ⟨z, r, rfl⟩
  unfold mixG
  have hn : nth (z :: r) 0 = z := rfl
  rw [hn, Bool.eq_iff_iff, List.any_eq_true, List.any_eq_true]
  constructor
  · rintro ⟨y, hy, h1⟩
    rw [List.any_eq_true] at h1
    obtain ⟨o, ho, h1⟩ := h1
    simp only [Bool.and_eq_true, decide_eq_true_eq, Bool.not_eq_true', decide_eq_false_iff_not] at h1
    by_cases hyz : y.Relay = z.Relay
    · refine ⟨o, ho, ?_⟩
      simp only [Bool.not_eq_true', decide_eq_false_iff_not]
      rw [← hyz]; exact h1.2
    · exact ⟨y, hy, by simpa using hyz⟩
  · rintro ⟨y, hy, h1⟩
    refine ⟨z, by simp, ?_⟩
    rw [List.any_eq_true]
    exact ⟨y, hy, by rw [hr y hy z (by simp)]; simpa using h1⟩
theorem scored_eq (l : List GScored) (hl : l.length ≤ 1000) : ∃ e, points_CheckScored l = some e ∧ tumbref2_ScoredFault l = some e ∧ (e = 0 → ∃ Gs : List (List GScored), l = Gs.flatten ∧ (∀ g ∈ Gs, One g ∧ Gr g) ∧ Gs.Pairwise (fun g g' => ∀ x ∈ g, ∀ y ∈ g', x.Race ≠ y.Race) ∧ l.Pairwise Dif ∧ (∀ g ∈ Gs, mixG g = false ∧ g.any (wrongE g) = false ∧ g.any (fullE g) = false)) := by
  unfold points_CheckScored tumbref2_ScoredFault
  rw [if_neg (by simp; omega), if_neg (by simp; omega)]
  simp only [join_eq]
  rcases sc_loop l hl l [] rfl (fun _ h => by cases h) List.Pairwise.nil with ⟨e, he, h⟩ | ⟨ho, hr, h⟩
  · exact ⟨e, (h _).1, (h _).2, fun h0 => (he h0).elim⟩
  · have h' : ∀ j, points_CheckScored_l1 l j l 0 = j ∧ tumbref2_ScoredFault_l1 l j l 0 = j := h
    rw [(h' _).1, (h' _).2, ref_flags l hl]
    obtain ⟨Gs, e, g1, g2⟩ := groups l ho
    have gr : ∀ g ∈ Gs, Gr g := fun g hg => by
      have sub : g.Sublist l := by rw [e]; exact List.sublist_flatten_of_mem hg
      exact ⟨(g1 g hg).2, ho.sublist sub, fun x hx => hr x (sub.subset hx), Nat.le_trans sub.length_le hl⟩
    have hraces : points_races l = some Gs := by rw [e]; exact races_is Gs g1 g2 (by rw [← e]; exact hl)
    have m1 : l.any (mixE l) = Gs.any mixG := by
      rw [show l.any (mixE l) = Gs.flatten.any (mixE Gs.flatten) by rw [← e], any_flat]
      refine any_congr Gs fun g hg => ?_
      rw [← mix_grp (g1 g hg)]
      exact any_congr g fun y hy => any_loc g2 hg hy _
    have m2 : l.any (wrongE l) = Gs.any fun g => g.any (wrongE g) := by
      rw [show l.any (wrongE l) = Gs.flatten.any (wrongE Gs.flatten) by rw [← e], any_flat]
      refine any_congr Gs fun g hg => any_congr g fun y hy => ?_
      unfold wrongE before
      rw [count_loc g2 hg hy]
    have m3 : l.any (fullE l) = Gs.any fun g => g.any (fullE g) := by
      rw [show l.any (fullE l) = Gs.flatten.any (fullE Gs.flatten) by rw [← e], any_flat]
      refine any_congr Gs fun g hg => any_congr g fun y hy => ?_
      unfold fullE sameR
      rw [count_loc g2 hg hy]
    rw [m1, m2, m3]
    unfold points_checkAll
    simp only [join_eq]
    by_cases hd : l.Pairwise Dif
    · obtain ⟨m', em⟩ := twice_no (fun x1 => Option.bind (points_races l) (fun r1 => points_checkAll_l2 (points_checkAll_l3 (points_checkAll_l5 (some 0) r1 0) r1 0) r1 0)) l hd l [] [] rfl (fun e he => by simp [mgetD, mget, mfind] at he)
      rw [List.length_nil] at em
      rw [em, hraces, Option.bind_some, chk_l2 _ Gs 0 g1, chk_l3 _ Gs 0 gr, chk_l5 _ Gs 0 gr, (twR_pair l).2 hd]
      simp only [Bool.false_eq_true, if_false]
      cases c1 : Gs.any mixG with
      | true => exact ⟨3, rfl, rfl, fun h => by cases h⟩
      | false =>
        cases c2 : Gs.any (fun g => g.any (wrongE g)) with
        | true => exact ⟨16, rfl, rfl, fun h => by cases h⟩
        | false =>
          cases c3 : Gs.any (fun g => g.any (fullE g)) with
          | true => exact ⟨12, rfl, rfl, fun h => by cases h⟩
          | false => exact ⟨0, rfl, rfl, fun _ => ⟨Gs, e, fun g hg => ⟨g1 g hg, gr g hg⟩, g2, hd, fun g hg => ⟨by simpa using List.any_eq_false.1 c1 g hg, by simpa using List.any_eq_false.1 c2 g hg, by simpa using List.any_eq_false.1 c3 g hg⟩⟩⟩
    · have ht : twR l l 0 = true := by
        cases ht : twR l l 0 with
        | true => rfl
        | false => exact (hd ((twR_pair l).1 ht)).elim
      rw [twice_yes _ l [] [] 0 List.Pairwise.nil hd (fun _ h => by cases h), ht]
      exact ⟨6, rfl, rfl, fun h => by cases h⟩
end Go.Proofs.YtcnneeipmadakaaGreatDoor
