/- Ranks of races: the program's check is the reference's. Conditions: the twins of package points and of the reference; at most 1000 ranks. -/
import Derived.Test.YtcnneeipmadakaaGreatDoorPPtsR
import Derived.Test.YtcnneeipmadakaaGreatDoorPPtsS
import Derived.Test.YtcnneeipmadakaaGreatDoorPKey2
namespace Go.Proofs.YtcnneeipmadakaaGreatDoor
open Go
theorem comp_lex {x y : GScored} (hx : RR x) (hy : RR y) : decide (points_compare x y < 0) = lexS x y := by
  have hc : strings_Compare x.Race y.Race = cB x.Race y.Race := rfl
  have hw : strings_Compare x.Who y.Who = cB x.Who y.Who := rfl
  have hor : ∀ a b c : Int, cmp_Or_int [a, b, c] = if a ≠ 0 then a else if b ≠ 0 then b else c := fun a b c => by
    unfold cmp_Or_int
    simp only [join_eq]
    rw [cmp_Or_int_l1, cmp_Or_int_l1, cmp_Or_int_l1, cmp_Or_int_l1]
    by_cases h1 : a = 0
    · by_cases h2 : b = 0
      · by_cases h3 : c = 0
        · simp [h1, h2, h3]
        · simp [h1, h2, h3]
      · simp [h1, h2]
    · simp [h1]
  have k1 := kR_rng hx
  have k2 := kR_rng hy
  have hk : points_compareRanks x.Rank y.Rank = kR x - kR y := by
    unfold points_compareRanks
    simp only [join_eq]
    have e : kR x - kR y = W (kR x - kR y) := (W_in (by omega) (by omega)).symm
    rw [e]
    unfold kR
    by_cases a : x.Rank = 0
    · by_cases b : y.Rank = 0
      · simp [a, b]
      · simp [a, b]
    · by_cases b : y.Rank = 0
      · simp [a, b]
      · simp [a, b]
  unfold points_compare lexS
  rw [hc, hw, hk, hor, decide_eq_decide]
  by_cases e : x.Race = y.Race
  · rw [e, cB_refl]
    by_cases k : kR x = kR y
    · simp [k]
    · simp only [ne_eq, not_true_eq_false, if_false]
      rw [if_pos (by omega)]
      simp [k]; omega
  · have : cB x.Race y.Race ≠ 0 := fun h => e (cB_zero h)
    rw [if_pos this]; simp [e]
theorem ge_lex {x y : GScored} (hx : RR x) (hy : RR y) : decide (0 ≤ points_compare x y) = !lexS x y ∧ decide (0 ≤ tumbref2_ScoredOrder x y) = !lexS x y := by
  rw [← comp_lex hx hy]
  refine ⟨?_, ?_⟩
  · rw [← decide_not, decide_eq_decide]; omega
  · rw [comp_lex hx hy, ← order_lex hx hy, ← decide_not, decide_eq_decide]; omega
theorem sc_loop (l : List GScored) (hl : l.length ≤ 1000) : ∀ (ys dn : List GScored), l = dn ++ ys → (∀ x ∈ dn, RR x) → dn.Pairwise (fun x y => lexS x y = true) →
    (∃ e, e ≠ 0 ∧ ∀ j, points_CheckScored_l1 l j ys dn.length = some e ∧ tumbref2_ScoredFault_l1 l j ys dn.length = some e) ∨
    (l.Pairwise (fun x y => lexS x y = true) ∧ (∀ x ∈ l, RR x) ∧ ∀ j, points_CheckScored_l1 l j ys dn.length = j ∧ tumbref2_ScoredFault_l1 l j ys dn.length = j)
  | [], dn, h, h1, h2 => by
    rw [List.append_nil] at h; subst h
    exact .inr ⟨h2, h1, fun j => ⟨rfl, rfl⟩⟩
  | y :: ys, dn, h, h1, h2 => by
    obtain ⟨b1, p1, q1⟩ := isKey_eq y.Race
    obtain ⟨b2, p2, q2⟩ := isKey_eq y.Who
    obtain ⟨b3, p3, q3⟩ := isKey_eq y.Club
    have five : ∀ j, b1 = false ∨ b2 = false ∨ (y.Club ≠ k_empty ∧ b3 = false) → points_CheckScored_l1 l j (y :: ys) dn.length = some 5 ∧ tumbref2_ScoredFault_l1 l j (y :: ys) dn.length = some 5 := by
      intro j hb
      rw [points_CheckScored_l1, tumbref2_ScoredFault_l1, p1, q1, p2, q2, p3, q3]
      simp only [Option.bind_some, join_eq]
      rcases hb with rfl | rfl | ⟨hc, rfl⟩
      · simp
      · cases b1 <;> simp
      · cases b1 <;> cases b2 <;> simp [hc]
    by_cases g1 : b1 = false
    · exact .inl ⟨5, by decide, fun j => five j (.inl g1)⟩
    by_cases g2 : b2 = false
    · exact .inl ⟨5, by decide, fun j => five j (.inr (.inl g2))⟩
    by_cases g3 : y.Club ≠ k_empty ∧ b3 = false
    · exact .inl ⟨5, by decide, fun j => five j (.inr (.inr g3))⟩
    have e1 : b1 = true := by simpa using g1
    have e2 : b2 = true := by simpa using g2
    have step : ∀ j, points_CheckScored_l1 l j (y :: ys) dn.length = (if !(words_Within y.Rank 0 300) then some 1 else if decide (0 < (dn.length : Int)) then Chk (inB (W ((dn.length : Int) - 1)) l.length) (if decide (0 ≤ (points_compare (nth l (W ((dn.length : Int) - 1))) y)) then some 7 else points_CheckScored_l1 l j ys (dn.length + 1)) else points_CheckScored_l1 l j ys (dn.length + 1)) ∧
        tumbref2_ScoredFault_l1 l j (y :: ys) dn.length = (if !(words_Within y.Rank 0 300) then some 1 else if decide (0 < (dn.length : Int)) then Chk (inB (W ((dn.length : Int) - 1)) l.length) (if decide (0 ≤ (tumbref2_ScoredOrder (nth l (W ((dn.length : Int) - 1))) y)) then some 7 else tumbref2_ScoredFault_l1 l j ys (dn.length + 1)) else tumbref2_ScoredFault_l1 l j ys (dn.length + 1)) := by
      intro j
      have hw : tumbref2_in = words_Within := rfl
      rw [points_CheckScored_l1, tumbref2_ScoredFault_l1, p1, q1, p2, q2, p3, q3, hw, e1, e2]
      simp only [Option.bind_some, join_eq]
      by_cases hc : y.Club = k_empty
      · simp [hc]
      · have : b3 = true := by
          cases b3 with
          | true => rfl
          | false => exact (g3 ⟨hc, rfl⟩).elim
        simp [hc, this]
    by_cases hr : words_Within y.Rank 0 300 = true
    · have hry : RR y := by
        unfold words_Within at hr
        simp only [Bool.and_eq_true, decide_eq_true_eq] at hr
        exact hr
      have next : dn.Pairwise (fun x y => lexS x y = true) → (∀ x ∈ dn, lexS x y = true) → ∀ (_ : ∀ j, points_CheckScored_l1 l j (y :: ys) dn.length = points_CheckScored_l1 l j ys (dn.length + 1) ∧ tumbref2_ScoredFault_l1 l j (y :: ys) dn.length = tumbref2_ScoredFault_l1 l j ys (dn.length + 1)),
          (∃ e, e ≠ 0 ∧ ∀ j, points_CheckScored_l1 l j (y :: ys) dn.length = some e ∧ tumbref2_ScoredFault_l1 l j (y :: ys) dn.length = some e) ∨
          (l.Pairwise (fun x y => lexS x y = true) ∧ (∀ x ∈ l, RR x) ∧ ∀ j, points_CheckScored_l1 l j (y :: ys) dn.length = j ∧ tumbref2_ScoredFault_l1 l j (y :: ys) dn.length = j) := by
        intro k1 k2 k3
        have ih := sc_loop l hl ys (dn ++ [y]) (by rw [h]; simp) (fun x hx => by
          rcases List.mem_append.1 hx with hx | hx
          · exact h1 x hx
          · obtain rfl := List.mem_singleton.1 hx; exact hry) (by
          rw [List.pairwise_append]
          exact ⟨k1, by simp, fun x hx z hz => by obtain rfl := List.mem_singleton.1 hz; exact k2 x hx⟩)
        rw [List.length_append, List.length_singleton] at ih
        simp only [fun j => (k3 j).1, fun j => (k3 j).2]
        exact ih
      rcases List.eq_nil_or_concat dn with rfl | ⟨d, x, rfl⟩
      · refine next h2 (fun x hx => by cases hx) (fun j => ?_)
        have s := step j
        rw [hr] at s
        simpa using s
      · simp only [List.concat_eq_append] at *
        have hlen : ((d ++ [x]).length : Int) = (d.length : Int) + 1 := by simp
        have hdl : d.length ≤ 1000 := by rw [h] at hl; simp at hl; omega
        have hw : W (((d ++ [x]).length : Int) - 1) = (d.length : Int) := by
          rw [hlen, show (d.length : Int) + 1 - 1 = (d.length : Int) by omega, W_in (by omega) (by omega)]
        have hn : nth l (d.length : Int) = x := by unfold nth; rw [h]; simp
        have hin : inB (d.length : Int) l.length = true := by rw [inB_iff, h]; simp; omega
        have hpos : decide (0 < ((d ++ [x]).length : Int)) = true := by rw [hlen]; simp
        have hrx : RR x := h1 x (by simp)
        obtain ⟨c1, c2⟩ := ge_lex hrx hry
        rw [hw, hn, hpos, hr, c1, c2] at step
        simp only [Bool.not_true, Bool.false_eq_true, if_false, if_true, chk_pos hin] at step
        cases hlx : lexS x y with
        | false =>
          rw [hlx] at step
          exact .inl ⟨7, by decide, fun j => by simpa using step j⟩
        | true =>
          rw [hlx] at step
          refine next h2 (fun z hz => ?_) (fun j => by simpa using step j)
          rcases List.mem_append.1 hz with hz | hz
          · rw [List.pairwise_append] at h2
            exact lexS_trans z x y (h2.2.2 z hz x (by simp)) hlx
          · obtain rfl := List.mem_singleton.1 hz; exact hlx
    · refine .inl ⟨1, by decide, fun j => ?_⟩
      have s := step j
      simp only [Bool.not_eq_true] at hr
      rw [hr] at s
      simpa using s
theorem groups : ∀ (l : List GScored), l.Pairwise (fun x y => lexS x y = true) → ∃ Gs : List (List GScored), l = Gs.flatten ∧ (∀ g ∈ Gs, One g) ∧ Gs.Pairwise (fun g g' => ∀ x ∈ g, ∀ y ∈ g', x.Race ≠ y.Race)
  | [], _ => ⟨[], rfl, (fun _ h => by cases h), List.Pairwise.nil⟩
  | x :: r, h => by
    obtain ⟨hx, hr⟩ := List.pairwise_cons.1 h
    obtain ⟨Gs, e, h1, h2⟩ := groups r hr
    cases Gs with
    | nil => exact ⟨[[x]], by rw [e]; rfl, fun g hg => by
        obtain rfl := List.mem_singleton.1 hg
        exact ⟨by simp, fun a ha b hb => by obtain rfl := List.mem_singleton.1 ha; obtain rfl := List.mem_singleton.1 hb; rfl⟩, by simp⟩
    | cons g Gs =>
      obtain ⟨k1, k2⟩ := List.pairwise_cons.1 h2
      have hg := h1 g List.mem_cons_self
      obtain ⟨z, g', rfl⟩ : ∃ z g', g = z :: g' := by
        cases g with
        | nil => exact (hg.1 rfl).elim
        | cons z g' => exact ⟨z, g', rfl⟩
      by_cases hz : x.Race = z.Race
      · refine ⟨(x :: z :: g') :: Gs, by rw [e]; rfl, fun q hq => ?_, List.pairwise_cons.2 ⟨fun q hq a ha b hb => ?_, k2⟩⟩
        · rcases List.mem_cons.1 hq with rfl | hq
          · refine ⟨by simp, fun a ha b hb => ?_⟩
            have all : ∀ c ∈ x :: z :: g', c.Race = z.Race := fun c hc => by
              rcases List.mem_cons.1 hc with rfl | hc
              · exact hz
              · exact hg.2 c hc z (by simp)
            rw [all a ha, all b hb]
          · exact h1 q (List.mem_cons_of_mem _ hq)
        · rcases List.mem_cons.1 ha with rfl | ha
          · rw [hz]; exact k1 q hq z (by simp) b hb
          · exact k1 q hq a ha b hb
      · have lt : ∀ b ∈ r, cB x.Race b.Race < 0 := fun b hb => by
          have hzr : z ∈ r := by rw [e]; simp
          have xz : cB x.Race z.Race < 0 := by
            rcases lexS_iff.1 (hx z hzr) with h | ⟨h, _⟩
            · exact h
            · exact (hz h).elim
          rw [e] at hr hb
          rw [List.flatten_cons, List.cons_append] at hr hb
          rcases List.mem_cons.1 hb with rfl | hb
          · exact xz
          · rcases lexS_iff.1 ((List.pairwise_cons.1 hr).1 b hb) with h | ⟨h, _⟩
            · exact cB_trans xz h
            · rw [← h]; exact xz
        refine ⟨[x] :: (z :: g') :: Gs, by rw [e]; rfl, fun q hq => ?_, List.pairwise_cons.2 ⟨fun q hq a ha b hb => ?_, h2⟩⟩
        · rcases List.mem_cons.1 hq with rfl | hq
          · exact ⟨by simp, fun a ha b hb => by obtain rfl := List.mem_singleton.1 ha; obtain rfl := List.mem_singleton.1 hb; rfl⟩
          · exact h1 q hq
        · obtain rfl := List.mem_singleton.1 ha
          have : b ∈ r := by rw [e]; exact List.mem_flatten.2 ⟨q, hq, hb⟩
          have h3 := lt b this
          intro e'
          rw [e', cB_refl] at h3; omega
end Go.Proofs.YtcnneeipmadakaaGreatDoor
