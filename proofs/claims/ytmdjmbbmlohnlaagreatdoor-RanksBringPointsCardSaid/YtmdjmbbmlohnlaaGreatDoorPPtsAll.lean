/- Points of all rows, and their sums in the order of the rows: the program's are the reference's. Conditions: as in PRowsU; names are short. -/
import Derived.Test.YtmdjmbbmlohnlaaGreatDoorPRowsU
namespace Go.Proofs.YtmdjmbbmlohnlaaGreatDoor
open Go
structure Right (t : GTable) (l : List GScored) (R : List Gpoints_row) : Prop where
  rows : points_rows t l = some R
  xs : R.map (·.x_) = l.filter tumbref2_counted
  pts : ∀ r ∈ R, tumbref2_shareOf t l r.x_ = some r.points_ ∧ Pts r.points_
  len : l.length ≤ 15
theorem rows_gen {t : GTable} (l : List GScored) (j : List Gpoints_row → Option (List Gpoints_row)) : ∀ (Gs : List (List GScored)) (i : Nat) (x : List Gpoints_row), (∀ g ∈ Gs, ∃ out, points_race t g = some out ∧ out.map (·.x_) = g.filter tumbref2_counted ∧ ∀ row ∈ out, tumbref2_shareOf t l row.x_ = some row.points_ ∧ Pts row.points_) →
    x.length + Gs.flatten.length ≤ 1000 → (∀ row ∈ x, tumbref2_shareOf t l row.x_ = some row.points_ ∧ Pts row.points_) →
    ∃ R, points_rows_l1 t j Gs i x = j R ∧ R.map (·.x_) = x.map (·.x_) ++ Gs.flatten.filter tumbref2_counted ∧ ∀ row ∈ R, tumbref2_shareOf t l row.x_ = some row.points_ ∧ Pts row.points_
  | [], i, x, _, _, h => ⟨x, rfl, by simp, h⟩
  | g :: Gs, i, x, h1, h2, h3 => by
    obtain ⟨out, e1, e2, e3⟩ := h1 g List.mem_cons_self
    have hol : out.length ≤ g.length := by
      have := congrArg List.length e2
      rw [List.length_map] at this
      have := List.length_filter_le tumbref2_counted g
      omega
    rw [List.flatten_cons, List.length_append] at h2
    rw [points_rows_l1, e1, Option.bind_some, chk_pos (by simp; omega)]
    obtain ⟨R, r1, r2, r3⟩ := rows_gen l j Gs (i + 1) (x ++ out) (fun q hq => h1 q (List.mem_cons_of_mem _ hq)) (by rw [List.length_append]; omega) (fun row hr => by
      rcases List.mem_append.1 hr with hr | hr
      · exact h3 row hr
      · exact e3 row hr)
    refine ⟨R, r1, ?_, r3⟩
    rw [r2, List.map_append, e2, List.flatten_cons, List.filter_append, List.append_assoc]
theorem rows_right {t : GTable} (ht : TR t) {l : List GScored} (hl : l.length ≤ 15) (h : tumbref2_ScoredFault l = some 0) : ∃ R, Right t l R := by
  obtain ⟨e, h1, h2, h3⟩ := scored_eq l (by omega)
  rw [h] at h2
  obtain ⟨Gs, e1, e2, e3, e4, e5⟩ := h3 (Option.some.inj h2).symm
  have hraces : points_races l = some Gs := by rw [e1]; exact races_is Gs (fun g hg => (e2 g hg).1) e3 (by rw [← e1]; omega)
  obtain ⟨R, r1, r2, r3⟩ := rows_gen (t := t) l (fun x => some x) Gs 0 [] (fun g hg => by
    obtain ⟨P, Q, rfl⟩ := List.append_of_mem hg
    have hg1 := (e2 g hg).1
    obtain ⟨z, hz⟩ : ∃ z, z ∈ g := List.exists_mem_of_ne_nil g hg1.1
    rw [List.pairwise_append, List.pairwise_cons] at e3
    have sub : g.Sublist l := by rw [e1]; exact List.sublist_flatten_of_mem hg
    have eq : l = P.flatten ++ (g ++ Q.flatten) := by rw [e1]; simp
    rw [eq]
    refine grp_pts ht (r := z.Race) (fun o ho => ?_) (fun o ho => ?_) (fun o ho => hg1.2 o ho z hz) hg1.1 (e2 g hg).2 (e5 g hg).1 (e5 g hg).2.2 (e4.sublist sub) (Nat.le_trans sub.length_le hl)
    · obtain ⟨g', hg', ho⟩ := List.mem_flatten.1 ho
      exact e3.2.2 g' hg' g (by simp) o ho z hz
    · obtain ⟨g', hg', ho⟩ := List.mem_flatten.1 ho
      exact fun e => e3.2.1.1 g' hg' z hz o ho e.symm) (by rw [← e1]; simp; omega) (fun _ h => by cases h)
  refine ⟨R, ?_, ?_, r3, hl⟩
  · unfold points_rows
    rw [hraces, Option.bind_some]
    simp only [join_eq]
    exact r1
  · rw [r2, ← e1]; simp
def valB (f : GFraction) : Nat := (f.Num * 2520 / f.Den).toNat
theorem valB_fr (v : Nat) : valB (frB v) = v := by
  obtain ⟨n, d, e, d1, d2, n1, p⟩ := fr_partsB v
  unfold valB
  rw [e]
  simp only
  rw [show ((n : Int) * 2520) = ((v * d : Nat) : Int) by rw [← p]; simp, Int.natCast_mul, Int.mul_ediv_cancel _ (by omega)]
  simp
theorem Pts.val {f : GFraction} (h : Pts f) : f = frB (valB f) ∧ valB f ≤ 4000000000 := by
  obtain ⟨v, hv, rfl⟩ := h
  rw [valB_fr]; exact ⟨rfl, hv⟩
theorem plus_frB {u v : Nat} (hu : u ≤ 1000000000000) (hv : v ≤ 1000000000000) : tumbref2_plus (frB u) (frB v) = some (frB (u + v)) := by
  obtain ⟨n, d, e1, d1, d2, n1, p1⟩ := fr_partsB u
  obtain ⟨m, e, e2, d3, d4, m1, p2⟩ := fr_partsB v
  unfold tumbref2_plus
  rw [e1, e2]
  simp only
  have b1 := mul_leB (a := n) (b := e) (by omega) d4
  have b2 := mul_leB (a := m) (b := d) (by omega) d2
  have b3 := mul_leB (a := d) (b := e) (by omega) d4
  rw [W_mulB (by omega) d4, W_mulB (by omega) d2, W_mulB (by omega) d4, ← Int.natCast_add, W_in (by omega) (by omega), lowest_frB (Nat.mul_pos d1 d3) (sum_partsB p1 p2) (by omega) (by omega)]
  rfl
def sumQ (q : GScored → Bool) (R : List Gpoints_row) : Nat := ((R.filter fun r => q r.x_).map fun r => valB r.points_).sum
theorem sumQ_cons (q : GScored → Bool) (r : Gpoints_row) (R : List Gpoints_row) : sumQ q (r :: R) = (if q r.x_ then valB r.points_ else 0) + sumQ q R := by
  unfold sumQ
  rw [List.filter_cons]
  split <;> simp
theorem sumQ_le {q : GScored → Bool} : ∀ {R : List Gpoints_row}, (∀ r ∈ R, Pts r.points_) → sumQ q R ≤ 4000000000 * R.length
  | [], _ => by simp [sumQ]
  | r :: R, h => by
    rw [sumQ_cons, List.length_cons]
    have := sumQ_le (q := q) (R := R) fun z hz => h z (List.mem_cons_of_mem _ hz)
    have := (h r List.mem_cons_self).val.2
    split <;> omega
theorem ref_sum {t : GTable} {l : List GScored} (q : GScored → Bool) (j : Int → Int → Option GFraction) (F : List GScored → Nat → Int → Int → Option GFraction) (h0 : ∀ i a b, F [] i a b = j a b)
    (h1 : ∀ y ys i a b, F (y :: ys) i a b = if (tumbref2_counted y && q y) then Option.bind (tumbref2_shareOf t l y) (fun r1 => Option.bind (tumbref2_plus (GFraction.mk a b) r1) (fun r2 => F ys (i + 1) r2.Num r2.Den)) else F ys (i + 1) a b) :
    ∀ (ys : List GScored) (R : List Gpoints_row) (i s : Nat), R.map (·.x_) = ys.filter tumbref2_counted → (∀ r ∈ R, tumbref2_shareOf t l r.x_ = some r.points_ ∧ Pts r.points_) → s + 4000000000 * R.length ≤ 1000000000000 →
      F ys i (frB s).Num (frB s).Den = j (frB (s + sumQ q R)).Num (frB (s + sumQ q R)).Den
  | [], R, i, s, e, _, _ => by
    have : R = [] := by simpa using e
    subst this
    rw [h0]; rfl
  | y :: ys, R, i, s, e, h, hs => by
    rw [h1]
    cases hc : tumbref2_counted y with
    | false =>
      rw [List.filter_cons_of_neg (by simp [hc])] at e
      rw [Bool.false_and, if_neg (by simp)]
      exact ref_sum q j F h0 h1 ys R (i + 1) s e h hs
    | true =>
      rw [List.filter_cons_of_pos (by simp [hc])] at e
      cases R with
      | nil => simp at e
      | cons r R =>
        rw [List.map_cons] at e
        injection e with e1 e2
        simp only [List.length_cons] at hs
        obtain ⟨k1, k2⟩ := h r List.mem_cons_self
        have hv := k2.val
        have ih := fun s' hs' => ref_sum q j F h0 h1 ys R (i + 1) s' e2 (fun z hz => h z (List.mem_cons_of_mem _ hz)) hs'
        rw [sumQ_cons, Bool.true_and, e1]
        cases hq : q y with
        | true =>
          rw [if_pos rfl, if_pos rfl, ← e1, k1, Option.bind_some]
          have e3 : (GFraction.mk (frB s).Num (frB s).Den) = frB s := rfl
          rw [e3, hv.1, plus_frB (by omega) (by omega), Option.bind_some, ih _ (by omega), valB_fr, Nat.add_assoc]
        | false => rw [if_neg (by simp), if_neg (by simp), Nat.zero_add]; exact ih _ (by omega)
theorem all_is {t : GTable} {l : List GScored} {R : List Gpoints_row} (h : Right t l R) (hb : points_checkBoth t l = some 0) : ∃ f, points_All t l = some (f, 0) ∧ tumbref2_AllPoints t l = some f := by
  have hRl : R.length ≤ 15 := by
    have := congrArg List.length h.xs
    rw [List.length_map] at this
    have := List.length_filter_le tumbref2_counted l
    have := h.len
    omega
  refine ⟨frB (sumQ (fun _ => true) R), ?_, ?_⟩
  · unfold points_All
    rw [hb, Option.bind_some, if_neg (by simp), h.rows, Option.bind_some]
    simp only [join_eq]
    have loop : ∀ (R : List Gpoints_row) (i s : Nat), (∀ r ∈ R, Pts r.points_) → s + 4000000000 * R.length ≤ 1000000000000 → points_All_l1 (fun (x1 : Int) (x2 : Int) => some ((GFraction.mk x1 x2), 0)) R i (frB s).Num (frB s).Den = some (frB (s + sumQ (fun _ => true) R), 0) := by
      intro R
      induction R with
      | nil => intro i s _ _; rfl
      | cons r R ih =>
        intro i s h1 h2
        simp only [List.length_cons] at h2
        have hv := (h1 r List.mem_cons_self).val
        rw [points_All_l1, sumQ_cons, if_pos rfl]
        have e3 : (GFraction.mk (frB s).Num (frB s).Den) = frB s := rfl
        rw [e3, hv.1, add_frB (by omega) (by omega), Option.bind_some, ih _ _ (fun z hz => h1 z (List.mem_cons_of_mem _ hz)) (by omega), valB_fr, Nat.add_assoc]
    have := loop R 0 0 (fun r hr => (h.pts r hr).2) (by omega)
    rw [Nat.zero_add] at this
    rw [none_frB]
    exact this
  · unfold tumbref2_AllPoints tumbref2_sumOf_tumbref2_AllPoints_c1
    simp only [join_eq]
    have := ref_sum (t := t) (l := l) (fun _ => true) (fun (x1 : Int) (x2 : Int) => some (GFraction.mk x1 x2)) (tumbref2_sumOf_tumbref2_AllPoints_c1_l1 t l (fun (x1 : Int) (x2 : Int) => some (GFraction.mk x1 x2))) (fun _ _ _ => rfl) (fun y ys i a b => by
      rw [tumbref2_sumOf_tumbref2_AllPoints_c1_l1]
      simp only [join_eq, tumbref2_AllPoints_c1]
      rfl) l R 0 0 h.xs h.pts (by omega)
    rw [Nat.zero_add] at this
    have e0 : frB 0 = GFraction.mk 0 1 := none_frB.symm
    rw [e0] at this
    rw [this]; rfl
theorem given_is {t : GTable} {l : List GScored} {R : List Gpoints_row} (h : Right t l R) (hb : points_checkBoth t l = some 0) (hs : ∀ x ∈ l, x.Race.size ≤ 1000 ∧ x.Who.size ≤ 1000) : ∃ G, points_Given t l = some (G, 0) ∧ tumbref2_GivenOf t l = some G := by
  have hRl : R.length ≤ 15 := by
    have := congrArg List.length h.xs
    rw [List.length_map] at this
    have := List.length_filter_le tumbref2_counted l
    have := h.len
    omega
  have hRs : ∀ r ∈ R, r.x_.Race.size ≤ 1000 ∧ r.x_.Who.size ≤ 1000 := fun r hr => by
    have : r.x_ ∈ l.filter tumbref2_counted := by rw [← h.xs]; exact List.mem_map_of_mem hr
    exact hs _ (List.mem_filter.1 this).1
  have h20 : k__20.size = 1 := by decide +kernel
  have ck : ∀ x : GScored, x.Race.size ≤ 1000 ∧ x.Who.size ≤ 1000 → decide (x.Race.size + k__20.size < 1073741824) = true ∧ decide ((x.Race ++ k__20).size + x.Who.size < 1073741824) = true := fun x hx => by
    rw [ByteArray.size_append, h20]; simp; omega
  refine ⟨R.map fun r => GGiven.mk ((r.x_.Race ++ k__20) ++ r.x_.Who) r.points_, ?_, ?_⟩
  · unfold points_Given
    rw [hb, Option.bind_some, if_neg (by simp), h.rows, Option.bind_some]
    simp only [join_eq]
    have loop : ∀ (R : List Gpoints_row) (i : Nat) (x : List GGiven), (∀ r ∈ R, r.x_.Race.size ≤ 1000 ∧ r.x_.Who.size ≤ 1000) → x.length + R.length ≤ 1000 → points_Given_l1 (fun (x1 : List GGiven) => some (x1, 0)) R i x = some (x ++ R.map fun r => GGiven.mk ((r.x_.Race ++ k__20) ++ r.x_.Who) r.points_, 0) := by
      intro R
      induction R with
      | nil => intro i x _ _; simp [points_Given_l1]
      | cons r R ih =>
        intro i x h1 h2
        simp only [List.length_cons] at h2
        obtain ⟨c1, c2⟩ := ck r.x_ (h1 r List.mem_cons_self)
        rw [points_Given_l1, chk_pos c1, chk_pos c2, chk_pos (by unfold room; simp; omega), ih _ _ (fun z hz => h1 z (List.mem_cons_of_mem _ hz)) (by simp; omega)]
        simp
    exact loop R 0 [] hRs (by simp; omega)
  · unfold tumbref2_GivenOf
    simp only [join_eq]
    have loop : ∀ (ys : List GScored) (R : List Gpoints_row) (i : Nat) (x : List GGiven), R.map (·.x_) = ys.filter tumbref2_counted → (∀ r ∈ R, tumbref2_shareOf t l r.x_ = some r.points_ ∧ Pts r.points_) → (∀ r ∈ R, r.x_.Race.size ≤ 1000 ∧ r.x_.Who.size ≤ 1000) → x.length + R.length ≤ 1000 →
        tumbref2_GivenOf_l1 t l (fun (x1 : List GGiven) => some x1) ys i x = some (x ++ R.map fun r => GGiven.mk ((r.x_.Race ++ k__20) ++ r.x_.Who) r.points_) := by
      intro ys
      induction ys with
      | nil =>
        intro R i x e _ _ _
        have : R = [] := by simpa using e
        subst this
        simp [tumbref2_GivenOf_l1]
      | cons y ys ih =>
        intro R i x e h1 h2 h3
        rw [tumbref2_GivenOf_l1]
        simp only [join_eq]
        cases hc : tumbref2_counted y with
        | false =>
          rw [List.filter_cons_of_neg (by simp [hc])] at e
          rw [if_neg (by simp)]
          exact ih R (i + 1) x e h1 h2 h3
        | true =>
          rw [List.filter_cons_of_pos (by simp [hc])] at e
          cases R with
          | nil => simp at e
          | cons r R =>
            rw [List.map_cons] at e
            injection e with e1 e2
            simp only [List.length_cons] at h3
            obtain ⟨c1, c2⟩ := ck r.x_ (h2 r List.mem_cons_self)
            rw [e1] at c1 c2
            have k1 := (h1 r List.mem_cons_self).1
            rw [e1] at k1
            rw [if_pos rfl, chk_pos c1, chk_pos c2, k1, Option.bind_some, chk_pos (by unfold room; simp; omega), ih R _ _ e2 (fun z hz => h1 z (List.mem_cons_of_mem _ hz)) (fun z hz => h2 z (List.mem_cons_of_mem _ hz)) (by simp; omega)]
            rw [List.map_cons, e1]; simp
    exact loop l R 0 [] h.xs h.pts hRs (by simp; omega)
end Go.Proofs.YtmdjmbbmlohnlaaGreatDoor
