/- Ranks of races: who is there twice, who is in a relay and who not, wrong ranks, too many of one rank. Conditions: as in PScored. -/
import Derived.Test.YtcnneeipmadakaaGreatDoorPScored
namespace Go.Proofs.YtcnneeipmadakaaGreatDoor
open Go
def before (l : List GScored) (y : GScored) : Nat := l.countP fun o => decide (o.Race = y.Race) && (decide (0 < o.Rank) && decide (o.Rank < y.Rank))
def sameR (l : List GScored) (y : GScored) : Nat := l.countP fun o => decide (o.Race = y.Race) && decide (o.Rank = y.Rank)
def wrongE (l : List GScored) (y : GScored) : Bool := decide (0 < y.Rank) && !decide (y.Rank = (before l y : Int) + 1)
def fullE (l : List GScored) (y : GScored) : Bool := decide (0 < y.Rank) && decide (10 < (sameR l y : Int))
def mixE (l : List GScored) (y : GScored) : Bool := l.any fun o => decide (o.Race = y.Race) && !decide (o.Relay = y.Relay)
def twI (y : GScored) (i : Nat) : List GScored → Nat → Bool
  | [], _ => false
  | o :: os, k => (decide (o.Race = y.Race) && (!decide ((k : Int) = (i : Int)) && decide (o.Who = y.Who))) || twI y i os (k + 1)
def twR (l : List GScored) : List GScored → Nat → Bool
  | [], _ => false
  | y :: ys, i => twI y i l 0 || twR l ys (i + 1)
theorem ref_l3 (y : GScored) (i : Nat) (j : Bool → Bool → Int → Int → Option Int) : ∀ (ys : List GScored) (k : Nat) (x6 x7 : Bool) (x8 x9 : Int), 0 ≤ x8 → x8 + ys.length ≤ 10000 → 0 ≤ x9 → x9 + ys.length ≤ 10000 →
    tumbref2_ScoredFault_l3 y i j ys k x6 x7 x8 x9 = j (x6 || twI y i ys k) (x7 || mixE ys y) (x8 + before ys y) (x9 + sameR ys y)
  | [], k, x6, x7, x8, x9, _, _, _, _ => by simp [tumbref2_ScoredFault_l3, twI, mixE, before, sameR]
  | o :: ys, k, x6, x7, x8, x9, h1, h2, h3, h4 => by
    simp only [List.length_cons] at h2 h4
    rw [tumbref2_ScoredFault_l3]
    simp only [join_eq]
    by_cases hr : o.Race = y.Race
    · rw [if_neg (by simp [hr])]
      have go : ∀ (u v : Int), u = x8 + (if (decide (0 < o.Rank) && decide (o.Rank < y.Rank)) = true then 1 else 0) → v = x9 + (if decide (o.Rank = y.Rank) = true then 1 else 0) →
          tumbref2_ScoredFault_l3 y i j ys (k + 1) (x6 || ((!decide ((k : Int) = (i : Int))) && (decide (o.Who = y.Who)))) (x7 || (!decide (o.Relay = y.Relay))) u v = j (x6 || twI y i (o :: ys) k) (x7 || mixE (o :: ys) y) (x8 + before (o :: ys) y) (x9 + sameR (o :: ys) y) := by
        intro u v hu hv
        rw [ref_l3 y i j ys (k + 1) _ _ u v (by split at hu <;> omega) (by split at hu <;> omega) (by split at hv <;> omega) (by split at hv <;> omega)]
        have t1 : twI y i (o :: ys) k = (((!decide ((k : Int) = (i : Int))) && (decide (o.Who = y.Who))) || twI y i ys (k + 1)) := by rw [twI, hr]; simp
        have t2 : mixE (o :: ys) y = ((!decide (o.Relay = y.Relay)) || mixE ys y) := by unfold mixE; rw [List.any_cons, hr]; simp
        have t3 : (before (o :: ys) y : Int) = (before ys y : Int) + (if (decide (0 < o.Rank) && decide (o.Rank < y.Rank)) = true then 1 else 0) := by
          unfold before
          rw [List.countP_cons, hr]
          simp only [decide_true, Bool.true_and]
          split <;> simp
        have t4 : (sameR (o :: ys) y : Int) = (sameR ys y : Int) + (if decide (o.Rank = y.Rank) = true then 1 else 0) := by
          unfold sameR
          rw [List.countP_cons, hr]
          simp only [decide_true, Bool.true_and]
          split <;> simp
        rw [t1, t2, t3, t4, hu, hv, Bool.or_assoc, Bool.or_assoc]
        congr 1 <;> omega
      by_cases c1 : (decide (0 < o.Rank) && decide (o.Rank < y.Rank)) = true
      · rw [if_pos c1, W_in (n := x8 + 1) (by omega) (by omega)]
        by_cases c2 : decide (o.Rank = y.Rank) = true
        · rw [if_pos c2, W_in (n := x9 + 1) (by omega) (by omega)]; exact go _ _ (by rw [if_pos c1]) (by rw [if_pos c2])
        · rw [if_neg c2]; exact go _ _ (by rw [if_pos c1]) (by rw [if_neg c2]; omega)
      · rw [if_neg c1]
        by_cases c2 : decide (o.Rank = y.Rank) = true
        · rw [if_pos c2, W_in (n := x9 + 1) (by omega) (by omega)]; exact go _ _ (by rw [if_neg c1]; omega) (by rw [if_pos c2])
        · rw [if_neg c2]; exact go _ _ (by rw [if_neg c1]; omega) (by rw [if_neg c2]; omega)
    · rw [if_pos (by simp [hr]), ref_l3 y i j ys (k + 1) _ _ x8 x9 h1 (by omega) h3 (by omega)]
      simp [twI, mixE, before, sameR, hr]
theorem ref_l2 (l : List GScored) (hl : l.length ≤ 1000) (j : Bool → Bool → Bool → Bool → Option Int) : ∀ (ys : List GScored) (i : Nat) (x2 x3 x4 x5 : Bool),
    tumbref2_ScoredFault_l2 l j ys i x2 x3 x4 x5 = j (x2 || twR l ys i) (x3 || ys.any (mixE l)) (x4 || ys.any (wrongE l)) (x5 || ys.any (fullE l))
  | [], i, x2, x3, x4, x5 => by simp [tumbref2_ScoredFault_l2, twR]
  | y :: ys, i, x2, x3, x4, x5 => by
    rw [tumbref2_ScoredFault_l2]
    simp only [join_eq]
    rw [ref_l3 y i _ l 0 x2 x3 0 0 (by omega) (by omega) (by omega) (by omega)]
    have hb : before l y ≤ 1000 := Nat.le_trans List.countP_le_length hl
    rw [ref_l2 l hl j ys (i + 1)]
    simp only [Int.zero_add, twR, List.any_cons, Bool.or_assoc, wrongE, fullE]
    rw [W_in (by omega) (by omega)]
theorem ref_flags (l : List GScored) (hl : l.length ≤ 1000) : tumbref2_ScoredFault_l2 l (fun (x2 : Bool) (x3 : Bool) (x4 : Bool) (x5 : Bool) => tumbref2_ScoredFault_l4 (some 0) ([(Gno_is_e.mk x2 6), (Gno_is_e.mk x3 3), (Gno_is_e.mk x4 16), (Gno_is_e.mk x5 12)] : List Gno_is_e) 0) l 0 false false false false =
    some (if twR l l 0 then 6 else if l.any (mixE l) then 3 else if l.any (wrongE l) then 16 else if l.any (fullE l) then 12 else 0) := by
  rw [ref_l2 l hl]
  simp only [Bool.false_or, tumbref2_ScoredFault_l4]
  cases twR l l 0 <;> cases l.any (mixE l) <;> cases l.any (wrongE l) <;> cases l.any (fullE l) <;> rfl
def Dif (x y : GScored) : Prop := ¬ (x.Race = y.Race ∧ x.Who = y.Who)
theorem twI_iff (y : GScored) (i : Nat) : ∀ (l : List GScored) (k : Nat), twI y i l k = true ↔ ∃ (q : Nat) (o : GScored), l[q]? = some o ∧ o.Race = y.Race ∧ k + q ≠ i ∧ o.Who = y.Who
  | [], k => by simp [twI]
  | o :: l, k => by
    rw [twI, Bool.or_eq_true, twI_iff y i l (k + 1)]
    constructor
    · rintro (h | ⟨q, z, h1, h2, h3, h4⟩)
      · simp only [Bool.and_eq_true, decide_eq_true_eq, Bool.not_eq_true', decide_eq_false_iff_not] at h
        exact ⟨0, o, rfl, h.1, by omega, h.2.2⟩
      · exact ⟨q + 1, z, h1, h2, by omega, h4⟩
    · rintro ⟨q, z, h1, h2, h3, h4⟩
      cases q with
      | zero =>
        left
        have : o = z := by simpa using h1
        subst this
        simp only [Bool.and_eq_true, decide_eq_true_eq, Bool.not_eq_true', decide_eq_false_iff_not]
        exact ⟨h2, by omega, h4⟩
      | succ q => right; exact ⟨q, z, h1, h2, by omega, h4⟩
theorem twR_iff (l : List GScored) : ∀ (ys : List GScored) (i : Nat), twR l ys i = true ↔ ∃ (p : Nat) (y : GScored), ys[p]? = some y ∧ twI y (i + p) l 0 = true
  | [], i => by simp [twR]
  | y :: ys, i => by
    rw [twR, Bool.or_eq_true, twR_iff l ys (i + 1)]
    constructor
    · rintro (h | ⟨p, z, h1, h2⟩)
      · exact ⟨0, y, rfl, h⟩
      · exact ⟨p + 1, z, h1, by rw [show i + (p + 1) = i + 1 + p by omega]; exact h2⟩
    · rintro ⟨p, z, h1, h2⟩
      cases p with
      | zero => left; have : y = z := by simpa using h1
                subst this; exact h2
      | succ p => right; exact ⟨p, z, h1, by rw [show i + 1 + p = i + (p + 1) by omega]; exact h2⟩
theorem twR_pair (l : List GScored) : twR l l 0 = false ↔ l.Pairwise Dif := by
  rw [← Bool.not_eq_true, twR_iff, List.pairwise_iff_getElem]
  constructor
  · intro h i j hi hj hij hd
    refine h ⟨i, l[i], by simp, ?_⟩
    rw [twI_iff]
    exact ⟨j, l[j], by simp, hd.1.symm, by omega, hd.2.symm⟩
  · rintro h ⟨p, y, h1, h2⟩
    obtain ⟨q, o, h3, h4, h5, h6⟩ := (twI_iff _ _ _ _).1 h2
    obtain ⟨hp, rfl⟩ := List.getElem?_eq_some_iff.1 h1
    obtain ⟨hq, rfl⟩ := List.getElem?_eq_some_iff.1 h3
    rcases Nat.lt_or_ge p q with g | g
    · exact h p q hp hq g ⟨h4.symm, h6.symm⟩
    · exact h q p hq hp (by omega) ⟨h4, h6⟩
theorem twice_no (j : List (Gpoints_entry × Bool) → Option Int) (l : List GScored) (hw : l.Pairwise Dif) : ∀ (ys dn : List GScored) (m : List (Gpoints_entry × Bool)), l = dn ++ ys → (∀ e, mgetD m e false = true → ∃ x ∈ dn, e = Gpoints_entry.mk x.Race x.Who) →
    ∃ m', points_checkAll_l1 j ys dn.length m = j m'
  | [], dn, m, _, _ => ⟨m, rfl⟩
  | y :: ys, dn, m, h1, h2 => by
    have hno : mgetD m (Gpoints_entry.mk y.Race y.Who) false = false := by
      cases hm : mgetD m (Gpoints_entry.mk y.Race y.Who) false with
      | false => rfl
      | true =>
        obtain ⟨x, hx, e⟩ := h2 _ hm
        rw [h1, List.pairwise_append] at hw
        injection e with e1 e2
        exact (hw.2.2 x hx y List.mem_cons_self ⟨e1.symm, e2.symm⟩).elim
    rw [points_checkAll_l1, hno, if_neg (by simp)]
    obtain ⟨m', e⟩ := twice_no j l hw ys (dn ++ [y]) (mput m (Gpoints_entry.mk y.Race y.Who) true) (by rw [h1]; simp) (fun e he => by
      rw [mgetPut] at he
      split at he
      · rename_i hk; exact ⟨y, by simp, hk⟩
      · obtain ⟨x, hx, e'⟩ := h2 e he; exact ⟨x, by simp [hx], e'⟩)
    rw [List.length_append, List.length_singleton] at e
    exact ⟨m', e⟩
theorem twice_yes (j : List (Gpoints_entry × Bool) → Option Int) : ∀ (ys dn : List GScored) (m : List (Gpoints_entry × Bool)) (i : Nat), dn.Pairwise Dif → ¬ (dn ++ ys).Pairwise Dif → (∀ x ∈ dn, mgetD m (Gpoints_entry.mk x.Race x.Who) false = true) →
    points_checkAll_l1 j ys i m = some 6
  | [], dn, m, i, h1, h2, _ => by rw [List.append_nil] at h2; exact (h2 h1).elim
  | y :: ys, dn, m, i, h1, h2, h3 => by
    rw [points_checkAll_l1]
    by_cases hm : mgetD m (Gpoints_entry.mk y.Race y.Who) false = true
    · rw [if_pos hm]
    · rw [if_neg hm]
      refine twice_yes j ys (dn ++ [y]) _ (i + 1) ?_ (by rw [List.append_assoc]; exact h2) (fun x hx => ?_)
      · rw [List.pairwise_append]
        refine ⟨h1, by simp, fun x hx z hz hd => ?_⟩
        obtain rfl := List.mem_singleton.1 hz
        refine hm ?_
        rw [← hd.1, ← hd.2]
        exact h3 x hx
      · rw [mgetPut]
        split
        · rfl
        · rename_i hk
          rcases List.mem_append.1 hx with hx | hx
          · exact h3 x hx
          · obtain rfl := List.mem_singleton.1 hx; exact (hk rfl).elim
theorem idx_l (g : List GScored) (hin : inB 0 g.length = true) : ∀ (ys : List GScored) (i : Nat), ∃ r, slices_IndexFunc_Scored_points_checkAll_c1_l1 g (some (-1)) ys i = some r ∧ decide (0 ≤ r) = ys.any fun x => !decide (x.Relay = (nth g 0).Relay)
  | [], i => ⟨-1, rfl, by simp⟩
  | y :: ys, i => by
    rw [slices_IndexFunc_Scored_points_checkAll_c1_l1]
    unfold points_checkAll_c1
    rw [chk_pos hin, Option.bind_some]
    cases hc : !decide (y.Relay = (nth g 0).Relay) with
    | true => rw [if_pos rfl]; exact ⟨i, rfl, by simp [hc]⟩
    | false =>
      rw [if_neg (by simp)]
      obtain ⟨r, e1, e2⟩ := idx_l g hin ys (i + 1)
      exact ⟨r, e1, by rw [e2, List.any_cons, hc, Bool.false_or]⟩
def mixG (g : List GScored) : Bool := g.any fun x => !decide (x.Relay = (nth g 0).Relay)
theorem chk_l2 (j : Option Int) : ∀ (Gs : List (List GScored)) (i : Nat), (∀ g ∈ Gs, One g) → points_checkAll_l2 j Gs i = if Gs.any mixG then some 3 else j
  | [], _, _ => rfl
  | g :: Gs, i, h => by
    have hg := (h g List.mem_cons_self).1
    have hin : inB 0 g.length = true := inB_iff.2 ⟨Int.le_refl _, by cases g with | nil => exact (hg rfl).elim | cons a b => simp⟩
    rw [points_checkAll_l2]
    unfold slices_ContainsFunc_Scored_points_checkAll_c1 slices_IndexFunc_Scored_points_checkAll_c1
    simp only [join_eq]
    obtain ⟨r, e1, e2⟩ := idx_l g hin g 0
    rw [e1, Option.bind_some, Option.bind_some, e2, List.any_cons]
    rw [chk_l2 j Gs (i + 1) (fun q hq => h q (List.mem_cons_of_mem _ hq))]
    show (if mixG g = true then _ else _) = _
    cases mixG g <;> rfl
end Go.Proofs.YtcnneeipmadakaaGreatDoor
