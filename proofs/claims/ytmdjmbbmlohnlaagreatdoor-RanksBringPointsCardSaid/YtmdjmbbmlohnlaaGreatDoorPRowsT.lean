/- The points of rows, within a race. Conditions: as in PRowsS. -/
import Derived.Test.YtmdjmbbmlohnlaaGreatDoorPRowsS
namespace Go.Proofs.YtmdjmbbmlohnlaaGreatDoor
open Go
theorem no_rank (t : GTable) (r : Int) : ∀ (ys : List GScored) (k : Nat), (∀ z ∈ ys, z.Rank ≠ r) → sumI t r ys k = 0 ∧ cntI r ys = 0
  | [], _, _ => ⟨rfl, rfl⟩
  | y :: ys, k, h => by
    obtain ⟨a, b⟩ := no_rank t r ys (k + 1) fun z hz => h z (List.mem_cons_of_mem _ hz)
    have hy := h y List.mem_cons_self
    refine ⟨by rw [sumI, a, if_neg (fun e => hy e.1)]; rfl, ?_⟩
    unfold cntI at b ⊢
    rw [List.countP_cons, b]; simp [hy]
theorem sum_app (t : GTable) (r : Int) : ∀ (A B : List GScored) (k : Nat), sumI t r (A ++ B) k = sumI t r A k + sumI t r B (k + A.length)
  | [], B, k => by simp [sumI]
  | a :: A, B, k => by
    rw [List.cons_append, sumI, sumI, sum_app t r A B (k + 1), List.length_cons, show k + (A.length + 1) = k + 1 + A.length by omega]; omega
theorem nth_set {α : Type} [Inhabited α] {l : List α} {i s : Int} {v : α} (hi0 : 0 ≤ i) (hi : i < l.length) (hs0 : 0 ≤ s) : nth (l.set i.toNat v) s = if s = i then v else nth l s := by
  unfold nth
  rw [List.getD_eq_getElem?_getD, List.getD_eq_getElem?_getD, List.getElem?_set]
  by_cases h : s = i
  · subst h; rw [if_pos rfl, if_pos rfl, if_pos (by omega)]; rfl
  · rw [if_neg h, if_neg (by omega)]
theorem nth_nat {α : Type} [Inhabited α] {l : List α} {p : Nat} (h : p < l.length) : nth l (p : Int) = l[p] := by
  unfold nth; rw [Int.toNat_natCast, List.getD_eq_getElem?_getD, List.getElem?_eq_getElem h]; rfl
section
variable {t : GTable} (ht : TR t) {x2 : List Int} {cs : List GScored} (hp : Pl cs.length x2) (hl : x2.length ≤ 1000)
include hp in
theorem Pl.at {p : Nat} (h : p < x2.length) : 0 ≤ nth x2 (p : Int) ∧ nth x2 (p : Int) < cs.length := by
  rw [nth_nat h]; exact hp.1 _ (List.getElem_mem h)
include hp in
theorem Pl.lt {p q : Nat} (h : p < q) (hq : q < x2.length) : nth x2 (p : Int) < nth x2 (q : Int) := by
  rw [nth_nat hq, nth_nat (by omega)]
  exact List.pairwise_iff_getElem.1 hp.2 p q (by omega) hq h
theorem drop_sw {q : Nat} (h : q < x2.length) : (x2.map (nth cs)).drop q = nth cs (nth x2 (q : Int)) :: (x2.map (nth cs)).drop (q + 1) := by
  rw [List.drop_eq_getElem_cons (by simpa using h)]
  congr 1
  rw [List.getElem_map, nth_nat h]
include ht hp hl in
theorem run_l3 {x8 : List Gpoints_row} (hx : x8.length = cs.length) (hr : ∀ s : Int, 0 ≤ s → s < cs.length → (nth x8 s).x_ = nth cs s) (hs : (x2.map (nth cs)).Pairwise fun a b => a.Rank ≤ b.Rank) (i : Nat) (hi : i < x2.length) (j : Int → Int → Option (List Gpoints_row)) :
    ∀ (d m q : Nat) (acc : Int), x2.length = q + d → d < m → 0 ≤ acc → acc + 10000 * d ≤ 100000000 → (∀ z ∈ (x2.map (nth cs)).drop q, (nth cs (nth x2 (i : Int))).Rank ≤ z.Rank) →
      points_race_l3 t x2 x8 (i : Int) j m (q : Int) acc = j ((q + cntI (nth cs (nth x2 (i : Int))).Rank ((x2.map (nth cs)).drop q) : Nat) : Int) (acc + sumI t (nth cs (nth x2 (i : Int))).Rank ((x2.map (nth cs)).drop q) q)
  | d, 0, q, acc, _, h, _, _, _ => by omega
  | d, m + 1, q, acc, h1, h2, h3, h4, h5 => by
    rw [points_race_l3]
    by_cases hq : q < x2.length
    · have hd := drop_sw (cs := cs) hq
      have pq := hp.at hq
      have pi := hp.at hi
      have hin := inB_iff.2 (show 0 ≤ (q : Int) ∧ (q : Int) < x2.length by omega)
      have hin2 := inB_iff.2 (show 0 ≤ nth x2 (q : Int) ∧ nth x2 (q : Int) < x8.length by omega)
      have hin3 := inB_iff.2 (show 0 ≤ (i : Int) ∧ (i : Int) < x2.length by omega)
      have hin4 := inB_iff.2 (show 0 ≤ nth x2 (i : Int) ∧ nth x2 (i : Int) < x8.length by omega)
      have hlt : decide ((q : Int) < (x2.length : Int)) = true := decide_eq_true (by omega)
      simp only [join_eq, hlt, if_true, Bool.true_and, chk_pos hin, chk_pos hin2, chk_pos hin3, chk_pos hin4, hr _ pq.1 pq.2, hr _ pi.1 pi.2]
      have hc : ∀ (A : List GScored) (z : GScored) (r : Int), (cntI r (z :: A)) = (if z.Rank = r then 1 else 0) + cntI r A := by
        intro A z r
        unfold cntI
        rw [List.countP_cons]
        by_cases h : z.Rank = r
        · simp [h]; omega
        · simp [h]
      by_cases e : (nth cs (nth x2 (q : Int))).Rank = (nth cs (nth x2 (i : Int))).Rank
      · rw [if_pos (decide_eq_true e)]
        have hW : W ((q : Int) + 1) = ((q + 1 : Nat) : Int) := by rw [W_in (by omega) (by omega)]; omega
        have low : ∀ z ∈ (x2.map (nth cs)).drop (q + 1), (nth cs (nth x2 (i : Int))).Rank ≤ z.Rank := fun z hz => h5 z (by rw [hd]; exact List.mem_cons_of_mem _ hz)
        rw [hd, hc, sumI, if_pos e, hW]
        by_cases hk : q < t.Points.length
        · have := pts_rng ht hk
          rw [if_pos (by simpa using hk), if_pos ⟨e, hk⟩, chk_pos (inB_iff.2 (by omega)), W_in (by omega) (by omega), run_l3 hx hr hs i hi j (d - 1) m (q + 1) _ (by omega) (by omega) (by omega) (by omega) low]
          congr 1 <;> omega
        · rw [if_neg (by simpa using hk), if_neg (fun e => hk e.2), run_l3 hx hr hs i hi j (d - 1) m (q + 1) _ (by omega) (by omega) (by omega) (by omega) low]
          congr 1 <;> omega
      · rw [if_neg (by simpa using e)]
        have none : ∀ z ∈ (x2.map (nth cs)).drop q, z.Rank ≠ (nth cs (nth x2 (i : Int))).Rank := by
          intro z hz
          have h0 := h5 (nth cs (nth x2 (q : Int))) (by rw [hd]; exact List.mem_cons_self)
          have hsd := hs.sublist (List.drop_sublist q _)
          rw [hd] at hz hsd
          rcases List.mem_cons.1 hz with rfl | hz
          · exact e
          · have := (List.pairwise_cons.1 hsd).1 z hz; omega
        obtain ⟨a, b⟩ := no_rank t _ _ q none
        rw [a, b]; congr 1; omega
    · rw [List.drop_eq_nil_of_le (by simp; omega)]
      have hlt : decide ((q : Int) < (x2.length : Int)) = false := decide_eq_false (by omega)
      simp [join_eq, hq, sumI, cntI]
include hp in
theorem set_l4 (i k : Nat) (hk : k ≤ x2.length) (hl : x2.length ≤ 1000) (a : Int) (V : GFraction) (hV : words_Fraction a (W ((k : Int) - (i : Int))) = some V) (j : List Gpoints_row → Option (List Gpoints_row)) : ∀ (d m q : Nat) (x15 : List Gpoints_row), k = i + q + d → d < m → x15.length = cs.length →
    ∃ out, points_race_l4 (k : Int) (i : Int) a x2 j m x15 (q : Int) = j out ∧ out.length = cs.length ∧ (∀ p : Nat, i + q ≤ p → p < k → nth out (nth x2 (p : Int)) = Gpoints_row.mk (nth x15 (nth x2 (p : Int))).x_ V) ∧
      (∀ s : Int, 0 ≤ s → s < cs.length → (∀ p : Nat, i + q ≤ p → p < k → nth x2 (p : Int) ≠ s) → nth out s = nth x15 s)
  | d, 0, q, x15, _, h, _ => by omega
  | d, m + 1, q, x15, h1, h2, h3 => by
    rw [points_race_l4]
    have hki : ((k : Int).toNat - (i : Int).toNat) = k - i := by simp
    rw [hki]
    by_cases hq : i + q < k
    · rw [if_pos (decide_eq_true (by omega)), chk_pos (inB_iff.2 (by omega)), hV, Option.bind_some]
      have hn : nth (cut x2 (i : Int) (k : Int)) (q : Int) = nth x2 ((i + q : Nat) : Int) := by
        unfold nth cut
        rw [Int.toNat_natCast, Int.toNat_natCast, Int.toNat_natCast, Int.toNat_natCast, List.getD_eq_getElem?_getD, List.getD_eq_getElem?_getD, List.getElem?_drop, List.getElem?_take_of_lt (by omega)]
      have pq := hp.at (p := i + q) (by omega)
      have hW : W ((q : Int) + 1) = ((q + 1 : Nat) : Int) := by rw [W_in (by omega) (by omega)]; omega
      rw [hn, chk_pos (inB_iff.2 (by omega)), hW]
      obtain ⟨out, e1, e2, e3, e4⟩ := set_l4 i k hk hl a V hV j (d - 1) m (q + 1) (x15.set (nth x2 ((i + q : Nat) : Int)).toNat (Gpoints_row.mk (nth x15 (nth x2 ((i + q : Nat) : Int))).x_ V)) (by omega) (by omega) (by rw [List.length_set]; exact h3)
      refine ⟨out, e1, e2, fun p hp1 hp2 => ?_, fun s h0 hs hno => ?_⟩
      · rcases Nat.lt_or_ge (i + q) p with g | g
        · rw [e3 p (by omega) hp2, nth_set pq.1 (by omega) (hp.at (p := p) (by omega)).1, if_neg]
          have := hp.lt g (by omega); omega
        · obtain rfl : p = i + q := by omega
          rw [e4 _ pq.1 pq.2 (fun p' h1 h2 => by have := hp.lt (p := i + q) (q := p') (by omega) (by omega); omega), nth_set pq.1 (by omega) pq.1, if_pos rfl]
      · rw [e4 s h0 hs (fun p h1 h2 => hno p (by omega) h2), nth_set pq.1 (by omega) h0, if_neg]
        exact fun e => hno (i + q) (by omega) (by omega) e.symm
    · rw [if_neg (by simp; omega)]
      exact ⟨x15, rfl, h3, fun p _ _ => by omega, fun _ _ _ _ => rfl⟩
include ht in
theorem val_parts (rel : Bool) {sw : List GScored} (hsl : sw.length ≤ 1000) {r : Int} (hc : 0 < cntI r sw) : ∃ a : Nat, (a : Int) = (if rel then sumI t r sw 0 * t.Relay else sumI t r sw 0) ∧ a ≤ 100000 * sw.length ∧ valR t rel sw r = some ⟨((a / Nat.gcd a (cntI r sw) : Nat) : Int), ((cntI r sw / Nat.gcd a (cntI r sw) : Nat) : Int)⟩ := by
  have h := sum_rng ht r sw 0
  have hn : cntI r sw ≤ sw.length := List.countP_le_length
  have hr := ht.rel
  have hA : 0 ≤ (if rel then sumI t r sw 0 * t.Relay else sumI t r sw 0) ∧ (if rel then sumI t r sw 0 * t.Relay else sumI t r sw 0) ≤ 100000 * sw.length := by
    cases rel with
    | false => simp only [Bool.false_eq_true, if_false]; omega
    | true =>
      simp only [if_true]
      refine ⟨Int.mul_nonneg h.1 (by omega), ?_⟩
      have := Int.mul_le_mul h.2 hr.2 (by omega) (by omega)
      omega
  obtain ⟨a, ha⟩ := Int.eq_ofNat_of_zero_le hA.1
  refine ⟨a, ha.symm, by omega, ?_⟩
  unfold valR
  rw [ha]
  exact frac_is a _ hc (by omega) (by omega)
include ht hp hl in
theorem run_l2 {g : List GScored} (hg : g ≠ []) (rel : Bool) (hrel : (nth g 0).Relay = rel) (hs : (x2.map (nth cs)).Pairwise fun a b => a.Rank ≤ b.Rank) (j : List Gpoints_row → Option (List Gpoints_row)) : ∀ (d m i : Nat) (x8 : List Gpoints_row), x2.length = i + d → d < m → x8.length = cs.length →
    (∀ s : Int, 0 ≤ s → s < cs.length → (nth x8 s).x_ = nth cs s) → (∀ z ∈ (x2.map (nth cs)).take i, ∀ y ∈ (x2.map (nth cs)).drop i, z.Rank < y.Rank) →
    ∃ out, points_race_l2 x2 g t j m x8 (i : Int) = j out ∧ out.length = cs.length ∧ (∀ s : Int, 0 ≤ s → s < cs.length → (nth out s).x_ = nth cs s) ∧
      (∀ p : Nat, i ≤ p → p < x2.length → valR t rel (x2.map (nth cs)) (nth cs (nth x2 (p : Int))).Rank = some (nth out (nth x2 (p : Int))).points_) ∧
      (∀ s : Int, 0 ≤ s → s < cs.length → (∀ p : Nat, i ≤ p → p < x2.length → nth x2 (p : Int) ≠ s) → nth out s = nth x8 s)
  | d, 0, i, x8, _, h, _, _, _ => by omega
  | d, m + 1, i, x8, h1, h2, h3, h4, h5 => by
    rw [points_race_l2]
    by_cases hi : i < x2.length
    · have hd := drop_sw (cs := cs) hi
      obtain ⟨r, hr⟩ : ∃ r, r = (nth cs (nth x2 (i : Int))).Rank := ⟨_, rfl⟩
      obtain ⟨sw, hsw⟩ : ∃ sw, sw = x2.map (nth cs) := ⟨_, rfl⟩
      have hswl : sw.length = x2.length := by rw [hsw, List.length_map]
      rw [← hsw] at hd hs h5
      have hsd := hs.sublist (List.drop_sublist i _)
      have low : ∀ z ∈ sw.drop i, r ≤ z.Rank := fun z hz => by
        rw [hd] at hz hsd
        rcases List.mem_cons.1 hz with rfl | hz
        · omega
        · rw [hr]; exact (List.pairwise_cons.1 hsd).1 z hz
      obtain ⟨k, hk⟩ : ∃ k, k = i + cntI r (sw.drop i) := ⟨_, rfl⟩
      have hcl : cntI r (sw.drop i) ≤ (sw.drop i).length := List.countP_le_length
      rw [List.length_drop] at hcl
      have hc1 : 0 < cntI r (sw.drop i) := by
        rw [hd]; unfold cntI; rw [List.countP_cons, if_pos (by simp [hr])]; omega
      have pre := no_rank t r (sw.take i) 0 (fun z hz e => by
        have := h5 z hz (nth cs (nth x2 (i : Int))) (by rw [hd]; exact List.mem_cons_self); omega)
      have hsum : sumI t r sw 0 = sumI t r (sw.drop i) i := by
        have e := sum_app t r (sw.take i) (sw.drop i) 0
        rw [List.take_append_drop, pre.1, List.length_take, Nat.min_eq_left (by omega), Int.zero_add, Nat.zero_add] at e
        exact e
      have hcnt : cntI r sw = cntI r (sw.drop i) := by
        have e : cntI r (sw.take i ++ sw.drop i) = cntI r (sw.take i) + cntI r (sw.drop i) := List.countP_append
        rw [List.take_append_drop, pre.2, Nat.zero_add] at e
        exact e
      have hsr := sum_rng ht r sw 0
      obtain ⟨a, ha, ha2, hV⟩ := val_parts (t := t) ht rel (sw := sw) (by omega) (r := r) (by omega)
      obtain ⟨V, hVV⟩ : ∃ V, valR t rel sw r = some V := ⟨_, hV⟩
      have hlt : decide ((i : Int) < (x2.length : Int)) = true := decide_eq_true (by omega)
      have hg0 : inB 0 g.length = true := inB_iff.2 ⟨Int.le_refl _, by cases g with | nil => exact (hg rfl).elim | cons a b => simp⟩
      simp only [join_eq, hlt, if_true]
      have e3 := run_l3 ht hp hl h3 h4 (by rw [← hsw]; exact hs) i hi (fun (x10 : Int) (x11 : Int) => Chk (inB 0 g.length) (if (nth g 0).Relay = true then Chk (cutB (i : Int) x10 x2.length) (points_race_l4 x10 (i : Int) (W (x11 * t.Relay)) x2 (fun (x15 : List Gpoints_row) => points_race_l2 x2 g t j m x15 x10) ((((x10.toNat - (i : Int).toNat : Nat) : Int) - 0).toNat + 2) x8 0) else Chk (cutB (i : Int) x10 x2.length) (points_race_l4 x10 (i : Int) x11 x2 (fun (x15 : List Gpoints_row) => points_race_l2 x2 g t j m x15 x10) ((((x10.toNat - (i : Int).toNat : Nat) : Int) - 0).toNat + 2) x8 0))) d (((x2.length : Int) - (i : Int)).toNat + 2) i 0 h1 (by omega) (by omega) (by omega) (by rw [← hsw, ← hr]; exact low)
      rw [← hsw, ← hr, Int.zero_add, ← hsum, ← hk] at e3
      rw [e3]
      have hcut : cutB (i : Int) (k : Int) x2.length = true := cutB_iff.2 (by omega)
      rw [chk_pos hg0, chk_pos hcut, chk_pos hcut, hrel]
      have hfr : words_Fraction (a : Int) (W ((k : Int) - (i : Int))) = some V := by
        rw [W_in (by omega) (by omega), show (k : Int) - (i : Int) = ((cntI r sw : Nat) : Int) by omega]
        rw [← hVV]; unfold valR; rw [ha]
      -- the rest, behind this run
      have rest : ∃ out, points_race_l4 (k : Int) (i : Int) (a : Int) x2 (fun (x15 : List Gpoints_row) => points_race_l2 x2 g t j m x15 (k : Int)) (((((k : Int).toNat - (i : Int).toNat : Nat) : Int) - 0).toNat + 2) x8 0 = j out ∧ out.length = cs.length ∧ (∀ s : Int, 0 ≤ s → s < cs.length → (nth out s).x_ = nth cs s) ∧
          (∀ p : Nat, i ≤ p → p < x2.length → valR t rel sw (nth cs (nth x2 (p : Int))).Rank = some (nth out (nth x2 (p : Int))).points_) ∧
          (∀ s : Int, 0 ≤ s → s < cs.length → (∀ p : Nat, i ≤ p → p < x2.length → nth x2 (p : Int) ≠ s) → nth out s = nth x8 s) := by
        obtain ⟨o1, q1, q2, q3, q4⟩ := set_l4 hp i k (by omega) hl (a : Int) V hfr (fun (x15 : List Gpoints_row) => points_race_l2 x2 g t j m x15 (k : Int)) (k - i) (((((k : Int).toNat - (i : Int).toNat : Nat) : Int) - 0).toNat + 2) 0 x8 (by omega) (by simp) h3
        rw [Nat.add_zero] at q3 q4
        have o1x : ∀ s : Int, 0 ≤ s → s < cs.length → (nth o1 s).x_ = nth cs s := fun s h0 hs' => by
          rcases Classical.em (∃ p : Nat, i ≤ p ∧ p < k ∧ nth x2 (p : Int) = s) with ⟨p, p1, p2, rfl⟩ | hno
          · rw [q3 p p1 p2]; exact h4 _ h0 hs'
          · rw [q4 s h0 hs' (fun p p1 p2 e => hno ⟨p, p1, p2, e⟩)]; exact h4 s h0 hs'
        -- ranks within the run, and behind it
        have inrun : ∀ p : Nat, i ≤ p → p < x2.length → ((nth cs (nth x2 (p : Int))).Rank = r ↔ p < k) := by
          -- the first cntI of the sorted rest have the rank
          have gen : ∀ (l : List GScored), l.Pairwise (fun a b => a.Rank ≤ b.Rank) → (∀ z ∈ l, r ≤ z.Rank) → ∀ (q : Nat) (hq : q < l.length), (l[q]).Rank = r ↔ q < cntI r l := by
            intro l
            induction l with
            | nil => intro _ _ q hq; simp at hq
            | cons z l ih =>
              intro hs1 hl1 q hq
              obtain ⟨s1, s2⟩ := List.pairwise_cons.1 hs1
              by_cases hz : z.Rank = r
              · have e : cntI r (z :: l) = cntI r l + 1 := by unfold cntI; rw [List.countP_cons, if_pos (by simp [hz])]
                rw [e]
                cases q with
                | zero => simp [hz]
                | succ q =>
                  have := ih s2 (fun y hy => hl1 y (List.mem_cons_of_mem _ hy)) q (by simpa using hq)
                  rw [List.getElem_cons_succ, this]; omega
              · have all : ∀ y ∈ z :: l, y.Rank ≠ r := fun y hy => by
                  have h0 := hl1 z List.mem_cons_self
                  rcases List.mem_cons.1 hy with rfl | hy
                  · exact hz
                  · have := s1 y hy; omega
                rw [(no_rank t r _ 0 all).2]
                have := all _ (List.getElem_mem hq)
                simp [this]
          intro p hp1 hp2
          have := gen (sw.drop i) hsd low (p - i) (by rw [List.length_drop]; omega)
          rw [List.getElem_drop] at this
          have e : sw[i + (p - i)]'(by omega) = nth cs (nth x2 (p : Int)) := by
            subst hsw
            rw [List.getElem_map, nth_nat hp2]
            congr 2; omega
          rw [e] at this
          rw [this]; omega
        have h5' : ∀ z ∈ sw.take k, ∀ y ∈ sw.drop k, z.Rank < y.Rank := by
          intro z hz y hy
          obtain ⟨u, hu⟩ := List.getElem?_of_mem hz
          obtain ⟨v, hv⟩ := List.getElem?_of_mem hy
          have hul := (List.getElem?_eq_some_iff.1 hu).1
          rw [List.length_take] at hul
          rw [List.getElem?_take_of_lt (by omega)] at hu
          rw [List.getElem?_drop] at hv
          have hvl := (List.getElem?_eq_some_iff.1 hv).1
          have ge : ∀ (q : Nat) (w : GScored), sw[q]? = some w → q < x2.length ∧ w = nth cs (nth x2 (q : Int)) := by
            intro q w hw
            obtain ⟨hq, rfl⟩ := List.getElem?_eq_some_iff.1 hw
            subst hsw
            refine ⟨by simpa using hq, ?_⟩
            rw [List.getElem_map, nth_nat (by simpa using hq)]
          obtain ⟨v1, rfl⟩ := ge _ _ hv
          obtain ⟨u1, rfl⟩ := ge _ _ hu
          have hy2 := inrun (k + v) (by omega) v1
          have hyr : r ≤ (nth cs (nth x2 ((k + v : Nat) : Int))).Rank := low _ (by
            rw [hsw]; refine List.mem_drop_iff_getElem.2 ⟨k + v - i, by simp; omega, ?_⟩
            rw [List.getElem_map, nth_nat v1]; congr 2; omega)
          have hne : (nth cs (nth x2 ((k + v : Nat) : Int))).Rank ≠ r := fun e => by have := hy2.1 e; omega
          rcases Nat.lt_or_ge u i with g1 | g1
          · exact h5 _ (by
              rw [hsw]; refine List.mem_take_iff_getElem.2 ⟨u, by simp; omega, ?_⟩
              rw [List.getElem_map, nth_nat u1]) _ (by
              rw [hsw]; refine List.mem_drop_iff_getElem.2 ⟨k + v - i, by simp; omega, ?_⟩
              rw [List.getElem_map, nth_nat v1]; congr 2; omega)
          · have := (inrun u g1 u1).2 (by omega); omega
        obtain ⟨out, w1, w2, w3, w4, w5⟩ := run_l2 hg rel hrel (by rw [← hsw]; exact hs) j (x2.length - k) m k o1 (by omega) (by omega) q2 o1x (by rw [← hsw]; exact h5')
        rw [← hsw] at w4
        refine ⟨out, q1.trans w1, w2, w3, fun p hp1 hp2 => ?_, fun s h0 hs' hno => ?_⟩
        · rcases Nat.lt_or_ge p k with g1 | g1
          · have pp := hp.at hp2
            rw [w5 _ pp.1 pp.2 (fun p' a1 a2 => by have := hp.lt (p := p) (q := p') (by omega) a2; omega), q3 p hp1 g1, (inrun p hp1 hp2).2 g1, hVV]
          · exact w4 p g1 hp2
        · rw [w5 s h0 hs' (fun p a1 a2 => hno p (by omega) a2), q4 s h0 hs' (fun p a1 a2 => hno p a1 (by omega))]
      cases rel with
      | true =>
        rw [if_pos rfl]
        simp only [if_true] at ha
        rw [← ha, W_in (by omega) (by omega)]
        rw [← hsw]; exact rest
      | false =>
        rw [if_neg (by simp)]
        simp only [Bool.false_eq_true, if_false] at ha
        rw [← ha]
        rw [← hsw]; exact rest
    · have hlt : decide ((i : Int) < (x2.length : Int)) = false := decide_eq_false (by omega)
      rw [hlt, if_neg (by simp)]
      exact ⟨x8, rfl, h3, h4, fun p _ _ => by omega, fun _ _ _ _ => rfl⟩
end
end Go.Proofs.YtmdjmbbmlohnlaaGreatDoor
