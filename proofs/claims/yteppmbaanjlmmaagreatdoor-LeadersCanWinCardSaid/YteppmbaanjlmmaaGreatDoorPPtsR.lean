/- Points of races: the rows of one race each, and what each row gets: a whole number of sixtieths. Conditions: not more than five rows of one race, a small table. No program stands here but its twins. -/
import Derived.Test.YteppmbaanjlmmaaGreatDoorPFrac
import Derived.Test.YteppmbaanjlmmaaGreatDoorPList
namespace Go.Proofs.YteppmbaanjlmmaaGreatDoor
open Go
/-- Rows of one race. -/
def One (g : List GScored) : Prop := g ≠ [] ∧ ∀ x ∈ g, ∀ y ∈ g, x.Race = y.Race
theorem races_l2 (pl pre g post : List GScored) (hp : pl = pre ++ (g ++ post)) (hg : One g) (hn : ∀ x ∈ g, ∀ y, post.head? = some y → x.Race ≠ y.Race) (hl : pl.length ≤ 1000) (j : Int → Option (List (List GScored))) :
    ∀ (d m k : Nat), g.length = k + d → 1 ≤ k → d < m → points_races_l2 pl (pre.length : Int) j m ((pre.length + k : Nat) : Int) = j ((pre.length + g.length : Nat) : Int)
  | d, 0, _, _, _, h => by omega
  | d, m + 1, k, h1, h2, h3 => by
    have hlen : pl.length = pre.length + (g.length + post.length) := by rw [hp]; simp
    rw [points_races_l2]
    simp only [join_eq]
    have hn0 : ∃ g0 gs, g = g0 :: gs := by
      cases g with
      | nil => exact (hg.1 rfl).elim
      | cons a b => exact ⟨a, b, rfl⟩
    obtain ⟨g0, gs, e0⟩ := hn0
    have h0 : nth pl (pre.length : Int) = g0 := by rw [hp, e0]; exact nth_mid pre g0 (gs ++ post) rfl
    have hb0 : inB (pre.length : Int) pl.length = true := inB_iff.2 (by rw [hlen, e0]; simp; omega)
    cases d with
    | zero =>
      have hk : k = g.length := by omega
      subst hk
      cases post with
      | nil =>
        simp only [List.length_nil, Nat.add_zero] at hlen
        rw [if_neg (by rw [hlen]; simp)]
        simp only [hlen, Int.lt_irrefl, decide_false, Bool.false_and, Bool.false_eq_true, if_false]
      | cons y post =>
        have hy : nth pl ((pre.length + g.length : Nat) : Int) = y := by
          have : pl = (pre ++ g) ++ y :: post := by rw [hp]; simp
          rw [this]; exact nth_mid (pre ++ g) y post (by simp)
        have hb : inB ((pre.length + g.length : Nat) : Int) pl.length = true := inB_iff.2 (by rw [hlen]; simp; omega)
        rw [if_pos (by rw [hlen]; simp; omega), chk_pos hb, chk_pos hb0, hy, h0]
        have hne : decide (y.Race = g0.Race) = false := decide_eq_false fun e => hn g0 (by rw [e0]; simp) y rfl e.symm
        rw [hne, Bool.and_false, if_neg (by simp)]
    | succ d =>
      have hkg : k < g.length := by omega
      have hk : nth pl ((pre.length + k : Nat) : Int) = g[k] := by
        unfold nth
        rw [Int.toNat_natCast, List.getD, hp, List.getElem?_append_right (by omega), Nat.add_sub_cancel_left, List.getElem?_append_left hkg, List.getElem?_eq_getElem hkg]; rfl
      have hb : inB ((pre.length + k : Nat) : Int) pl.length = true := inB_iff.2 (by rw [hlen]; omega)
      have hlt : ((pre.length + k : Nat) : Int) < (pl.length : Int) := by rw [hlen]; omega
      rw [if_pos (decide_eq_true hlt), chk_pos hb, chk_pos hb0, hk, h0]
      have heq : g[k].Race = g0.Race := hg.2 _ (List.getElem_mem hkg) _ (by rw [e0]; simp)
      rw [if_pos (by simp only [heq, decide_true, Bool.and_true]; exact decide_eq_true hlt), W_in (by omega) (by omega)]
      have := races_l2 pl pre g post hp hg hn hl j d m (k + 1) (by omega) (by omega) (by omega)
      rw [show ((pre.length + k : Nat) : Int) + 1 = ((pre.length + (k + 1) : Nat) : Int) by omega]
      exact this
theorem races_l1 (pl : List GScored) (hl : pl.length ≤ 1000) (j : List (List GScored) → Option (List (List GScored))) : ∀ (Gs : List (List GScored)) (pre : List GScored) (x1 : List (List GScored)) (m : Nat), pl = pre ++ Gs.flatten → Gs.length < m → x1.length + Gs.length ≤ 10000 →
    (∀ g ∈ Gs, One g) → Gs.Pairwise (fun g g' => ∀ x ∈ g, ∀ y ∈ g', x.Race ≠ y.Race) → points_races_l1 pl j m x1 (pre.length : Int) = j (x1 ++ Gs)
  | Gs, pre, x1, 0, _, h, _, _, _ => by omega
  | [], pre, x1, m + 1, h1, _, _, _, _ => by
    have : pl.length = pre.length := by rw [h1]; simp
    rw [points_races_l1, if_neg (by rw [this]; simp), List.append_nil]
  | g :: Gs, pre, x1, m + 1, h1, h2, h3, h4, h5 => by
    have hg := h4 g List.mem_cons_self
    have hpos : 0 < g.length := List.length_pos_iff.2 hg.1
    have hp : pl = pre ++ (g ++ Gs.flatten) := by rw [h1]; simp
    have hlen : pl.length = pre.length + (g.length + Gs.flatten.length) := by rw [hp]; simp
    obtain ⟨p1, p2⟩ := List.pairwise_cons.1 h5
    rw [points_races_l1, if_pos (by rw [hlen]; simp; omega)]
    simp only [join_eq]
    have hhead : ∀ x ∈ g, ∀ y, Gs.flatten.head? = some y → x.Race ≠ y.Race := by
      intro x hx y hy
      cases Gs with
      | nil => simp at hy
      | cons g' Gs =>
        have hg' := h4 g' (by simp)
        cases g' with
        | nil => exact (hg'.1 rfl).elim
        | cons a b => simp at hy; subst hy; exact p1 (a :: b) List.mem_cons_self x hx a List.mem_cons_self
    have hk := races_l2 pl pre g Gs.flatten hp hg hhead hl (fun x3 => Chk (cutB (pre.length : Int) x3 pl.length) (Chk (room x1.length) (points_races_l1 pl j m (x1 ++ [cut pl (pre.length : Int) x3]) x3))) (g.length - 1) (((pl.length : Int) - (W ((pre.length : Int) + 1))).toNat + 2) 1 (by omega) (by omega) (by rw [W_in (by omega) (by omega)]; omega)
    rw [W_in (by omega) (by omega)] at hk ⊢
    rw [show (pre.length : Int) + 1 = ((pre.length + 1 : Nat) : Int) by omega] at hk ⊢
    rw [hk, chk_pos (cutB_iff.2 (by omega)), chk_pos (by unfold room; simp; simp at h3; omega)]
    have hcut : cut pl (pre.length : Int) ((pre.length + g.length : Nat) : Int) = g := by
      unfold cut
      rw [hp, Int.toNat_natCast, Int.toNat_natCast, ← List.append_assoc, List.take_left' (by simp), List.drop_left]
    rw [hcut]
    have ih := races_l1 pl hl j Gs (pre ++ g) (x1 ++ [g]) m (by rw [hp]; simp) (by simp at h2; omega) (by simp at h3 ⊢; omega) (fun g' h' => h4 g' (List.mem_cons_of_mem _ h')) p2
    rw [List.length_append] at ih
    rw [ih]; simp
theorem flat_le : ∀ (Gs : List (List GScored)), (∀ g ∈ Gs, One g) → Gs.length ≤ Gs.flatten.length
  | [], _ => by simp
  | g :: Gs, h => by
    have := flat_le Gs fun g' h' => h g' (List.mem_cons_of_mem _ h')
    have := List.length_pos_iff.2 (h g List.mem_cons_self).1
    rw [List.flatten_cons, List.length_append, List.length_cons]; omega
theorem races_is (Gs : List (List GScored)) (h1 : ∀ g ∈ Gs, One g) (h2 : Gs.Pairwise (fun g g' => ∀ x ∈ g, ∀ y ∈ g', x.Race ≠ y.Race)) (hl : Gs.flatten.length ≤ 1000) : points_races Gs.flatten = some Gs := by
  unfold points_races
  simp only [join_eq]
  have hf := flat_le Gs h1
  have := races_l1 Gs.flatten hl (fun x1 => some x1) Gs [] [] (((Gs.flatten.length : Int) - 0).toNat + 2) rfl (by omega) (by simp; omega) h1 h2
  simpa using this
/-! ### The points of one race -/
structure TOk (t : GTable) : Prop where
  len : t.Points.length ≤ 5
  rng : ∀ n ∈ t.Points, 0 ≤ n ∧ n ≤ 10
  rel : 1 ≤ t.Relay ∧ t.Relay ≤ 2
  most : 0 ≤ t.Most ∧ t.Most ≤ 2
/-- A row with its points. -/
def RowOk (L : List GScored) (r : Gpoints_row) : Prop := r.x_ ∈ L ∧ r.x_.Club ≠ k_empty ∧ ∃ v, v ≤ 6000 ∧ r.points_ = fr v
theorem race_l1 (t : GTable) (L : List GScored) (j : List (ByteArray × Int) → List Int → List Gpoints_row → Option (List Gpoints_row)) : ∀ (ys : List GScored) (i : Nat) (x1 : List (ByteArray × Int)) (x2 : List Int) (x3 : List Gpoints_row), (∀ y ∈ ys, y ∈ L) →
    (∀ s ∈ x2, 0 ≤ s ∧ s < x3.length) → x2.length ≤ x3.length → x3.length + ys.length ≤ 5 → (∀ r ∈ x3, RowOk L r) →
    ∃ mp sw out, points_race_l1 t j ys i x1 x2 x3 = j mp sw out ∧ (∀ s ∈ sw, 0 ≤ s ∧ s < out.length) ∧ sw.length ≤ out.length ∧ out.length ≤ x3.length + ys.length ∧ (∀ r ∈ out, RowOk L r)
  | [], i, x1, x2, x3, _, h1, h2, _, h4 => ⟨x1, x2, x3, rfl, h1, h2, by simp, h4⟩
  | y :: ys, i, x1, x2, x3, h0, h1, h2, h3, h4 => by
    simp only [List.length_cons] at h3 ⊢
    rw [points_race_l1]
    simp only [join_eq]
    have hys : ∀ z ∈ ys, z ∈ L := fun z hz => h0 z (List.mem_cons_of_mem _ hz)
    by_cases hc : (decide (y.Rank = 0) || decide (y.Club = k_empty)) = true
    · rw [if_pos hc]
      obtain ⟨mp, sw, out, e, g1, g2, g3, g4⟩ := race_l1 t L j ys (i + 1) x1 x2 x3 hys h1 h2 (by omega) h4
      exact ⟨mp, sw, out, e, g1, g2, by omega, g4⟩
    · rw [if_neg hc]
      simp only [Bool.or_eq_true, decide_eq_true_eq, not_or] at hc
      have hok : ∀ r ∈ x3 ++ [(Gpoints_row.mk y points_none)], RowOk L r := fun r hr => by
        rcases List.mem_append.1 hr with hr | hr
        · exact h4 r hr
        · obtain rfl := List.mem_singleton.1 hr
          exact ⟨h0 y List.mem_cons_self, hc.2, 0, by omega, none_fr⟩
      have go : ∀ x7 : List Int, (∀ s ∈ x7, 0 ≤ s ∧ s < (x3 ++ [(Gpoints_row.mk y points_none)]).length) → x7.length ≤ x3.length + 1 → ∃ mp sw out, points_race_l1 t j ys (i + 1) (mput x1 y.Club (W ((mgetD x1 y.Club 0) + 1))) x7 (x3 ++ [(Gpoints_row.mk y points_none)]) = j mp sw out ∧ (∀ s ∈ sw, 0 ≤ s ∧ s < out.length) ∧ sw.length ≤ out.length ∧ out.length ≤ x3.length + (ys.length + 1) ∧ (∀ r ∈ out, RowOk L r) := by
        intro x7 k1 k2
        obtain ⟨mp, sw, out, e, g1, g2, g3, g4⟩ := race_l1 t L j ys (i + 1) (mput x1 y.Club (W ((mgetD x1 y.Club 0) + 1))) x7 (x3 ++ [(Gpoints_row.mk y points_none)]) hys k1 (by simp; omega) (by simp; omega) hok
        exact ⟨mp, sw, out, e, g1, g2, by simp at g3; omega, g4⟩
      split
      · rw [chk_pos (by unfold room; simp; omega), chk_pos (by unfold room; simp; omega)]
        refine go _ (fun s hs => ?_) (by simp; omega)
        rcases List.mem_append.1 hs with hs | hs
        · have := h1 s hs; simp; omega
        · obtain rfl := List.mem_singleton.1 hs; simp; omega
      · rw [chk_pos (by unfold room; simp; omega)]
        refine go _ (fun s hs => ?_) (by omega)
        have := h1 s hs; simp; omega
theorem race_l3 (t : GTable) (ht : TOk t) (x2 : List Int) (x8 : List Gpoints_row) (hs : ∀ s ∈ x2, 0 ≤ s ∧ s < x8.length) (h5 : x2.length ≤ 5) (i : Nat) (hi : i < x2.length) (j : Int → Int → Option (List Gpoints_row)) : ∀ (d m k : Nat) (s : Int), x2.length = k + d → d < m → i ≤ k → 0 ≤ s → s ≤ 10 * k →
    ∃ (k' : Nat) (s' : Int), points_race_l3 t x2 x8 (i : Int) j m (k : Int) s = j (k' : Int) s' ∧ k ≤ k' ∧ k' ≤ x2.length ∧ 0 ≤ s' ∧ s' ≤ 10 * k' ∧ (k = i → i < k')
  | d, 0, _, _, _, h, _, _, _ => by omega
  | d, m + 1, k, s, h1, h2, h3, h4, h6 => by
    rw [points_race_l3]
    simp only [join_eq]
    have hx : ∀ q : Nat, q < x2.length → inB (q : Int) x2.length = true ∧ inB (nth x2 (q : Int)) x8.length = true := fun q hq => by
      have hb : inB (q : Int) x2.length = true := inB_iff.2 (by omega)
      have := hs _ (List.mem_of_getElem? (inB_get hb).1)
      exact ⟨hb, inB_iff.2 this⟩
    cases d with
    | zero =>
      have hk : k = x2.length := by omega
      subst hk
      rw [if_neg (by simp)]
      simp only [Int.lt_irrefl, decide_false, Bool.false_and, Bool.false_eq_true, if_false]
      exact ⟨x2.length, s, rfl, by omega, by omega, h4, h6, by omega⟩
    | succ d =>
      have hkl : k < x2.length := by omega
      have hlt : decide ((k : Int) < (x2.length : Int)) = true := decide_eq_true (by omega)
      rw [if_pos hlt, chk_pos (hx k hkl).1, chk_pos (hx k hkl).2, chk_pos (hx i hi).1, chk_pos (hx i hi).2, hlt, Bool.true_and]
      split
      · have hw : W ((k : Int) + 1) = ((k + 1 : Nat) : Int) := by rw [W_in (by omega) (by omega)]; rfl
        have next : ∀ s2 : Int, 0 ≤ s2 → s2 ≤ s + 10 → ∃ (k' : Nat) (s' : Int), points_race_l3 t x2 x8 (i : Int) j m (W ((k : Int) + 1)) s2 = j (k' : Int) s' ∧ k ≤ k' ∧ k' ≤ x2.length ∧ 0 ≤ s' ∧ s' ≤ 10 * k' ∧ (k = i → i < k') := by
          intro s2 g1 g2
          rw [hw]
          obtain ⟨k', s', e, q1, q2, q3, q4, _⟩ := race_l3 t ht x2 x8 hs h5 i hi j d m (k + 1) s2 (by omega) (by omega) (by omega) g1 (by push_cast; omega)
          exact ⟨k', s', e, by omega, q2, q3, q4, by omega⟩
        by_cases hp : (k : Int) < (t.Points.length : Int)
        · have hb : inB (k : Int) t.Points.length = true := inB_iff.2 (by omega)
          have hr := ht.rng _ (List.mem_of_getElem? (inB_get hb).1)
          have hw2 : W (s + nth t.Points (k : Int)) = s + nth t.Points (k : Int) := W_in (by omega) (by omega)
          rw [if_pos (decide_eq_true hp), chk_pos hb, hw2]
          exact next _ (by omega) (by omega)
        · rw [if_neg (by simpa using hp)]
          exact next s h4 (by omega)
      · rename_i hne
        exact ⟨k, s, rfl, by omega, by omega, h4, h6, fun e => by subst e; simp at hne⟩
theorem frac60 {a : Int} {b : Nat} (ha : 0 ≤ a) (ha' : a ≤ 100) (hb : 1 ≤ b) (hb' : b ≤ 5) : ∃ v, v ≤ 6000 ∧ words_Fraction a (b : Int) = some (fr v) := by
  obtain ⟨n, rfl⟩ := Int.eq_ofNat_of_zero_le ha
  have h60 : 60 / b * b = 60 := by
    have : b = 1 ∨ b = 2 ∨ b = 3 ∨ b = 4 ∨ b = 5 := by omega
    rcases this with rfl | rfl | rfl | rfl | rfl <;> rfl
  have hle : 60 / b ≤ 60 := Nat.div_le_self _ _
  refine ⟨n * (60 / b), ?_, frac_fr (by omega) (by rw [Nat.mul_assoc, h60]) (by omega) (by omega)⟩
  calc n * (60 / b) ≤ 100 * 60 := Nat.mul_le_mul (by omega) hle
    _ = 6000 := rfl
theorem race_l4 (L : List GScored) (x2 : List Int) (i k : Nat) (a : Int) (ha : 0 ≤ a) (ha' : a ≤ 100) (hik : i < k) (hk : k ≤ x2.length) (h5 : x2.length ≤ 5) (j : List Gpoints_row → Option (List Gpoints_row)) : ∀ (d m q : Nat) (x15 : List Gpoints_row), k - i = q + d → d < m → (∀ s ∈ x2, 0 ≤ s ∧ s < x15.length) → (∀ r ∈ x15, RowOk L r) →
    ∃ out, points_race_l4 (k : Int) (i : Int) a x2 j m x15 (q : Int) = j out ∧ out.length = x15.length ∧ (∀ r ∈ out, RowOk L r)
  | d, 0, _, _, _, h, _, _ => by omega
  | d, m + 1, q, x15, h1, h2, h3, h4 => by
    rw [points_race_l4]
    simp only [Int.toNat_natCast]
    cases d with
    | zero =>
      rw [if_neg (by simp; omega)]
      exact ⟨x15, rfl, rfl, h4⟩
    | succ d =>
      rw [if_pos (by simp; omega), chk_pos (inB_iff.2 (by omega))]
      have hw : W ((k : Int) - (i : Int)) = ((k - i : Nat) : Int) := by rw [W_in (by omega) (by omega)]; omega
      obtain ⟨v, hv, e⟩ := frac60 ha ha' (b := k - i) (by omega) (by omega)
      rw [hw, e, Option.bind_some]
      have hcut : (cut x2 (i : Int) (k : Int))[q]? = x2[i + q]? := by
        unfold cut
        rw [Int.toNat_natCast, Int.toNat_natCast, List.getElem?_drop, List.getElem?_take, if_pos (by omega)]
      have hm : nth (cut x2 (i : Int) (k : Int)) (q : Int) ∈ x2 := by
        unfold nth
        rw [Int.toNat_natCast, List.getD, hcut, List.getElem?_eq_getElem (by omega)]
        exact List.getElem_mem _
      have hs := h3 _ hm
      generalize nth (cut x2 (i : Int) (k : Int)) (q : Int) = z at hs hm
      have hb : inB z x15.length = true := inB_iff.2 hs
      rw [chk_pos hb, show W ((q : Int) + 1) = ((q + 1 : Nat) : Int) by rw [W_in (by omega) (by omega)]; rfl]
      have hz := h4 _ (List.mem_of_getElem? (inB_get hb).1)
      obtain ⟨out, e2, g1, g2⟩ := race_l4 L x2 i k a ha ha' hik hk h5 j d m (q + 1) (x15.set z.toNat (Gpoints_row.mk ((nth x15 z).x_) (fr v))) (by omega) (by omega) (fun s hs => by rw [List.length_set]; exact h3 s hs) (fun r hr => by
        rcases List.mem_or_eq_of_mem_set hr with hr | rfl
        · exact h4 r hr
        · exact ⟨hz.1, hz.2.1, v, hv, rfl⟩)
      exact ⟨out, e2, by rw [g1, List.length_set], g2⟩
theorem race_l2 (t : GTable) (ht : TOk t) (L g : List GScored) (hg : g ≠ []) (x2 : List Int) (h5 : x2.length ≤ 5) (j : List Gpoints_row → Option (List Gpoints_row)) : ∀ (m i : Nat) (x8 : List Gpoints_row), x2.length - i < m → i ≤ x2.length → (∀ s ∈ x2, 0 ≤ s ∧ s < x8.length) → (∀ r ∈ x8, RowOk L r) →
    ∃ out, points_race_l2 x2 g t j m x8 (i : Int) = j out ∧ out.length = x8.length ∧ (∀ r ∈ out, RowOk L r)
  | 0, _, _, h, _, _, _ => by omega
  | m + 1, i, x8, h1, h2, h3, h4 => by
    rw [points_race_l2]
    by_cases hi : i < x2.length
    · rw [if_pos (by simp; omega)]
      simp only [join_eq]
      have hg0 : inB 0 g.length = true := inB_iff.2 ⟨by omega, by have := List.length_pos_iff.2 hg; omega⟩
      obtain ⟨k', s', e, q1, q2, q3, q4, q5⟩ := race_l3 t ht x2 x8 h3 h5 i hi (fun x10 x11 => Chk (inB 0 g.length) (if (nth g 0).Relay = true then Chk (cutB (i : Int) x10 x2.length) (points_race_l4 x10 (i : Int) (W (x11 * t.Relay)) x2 (fun x15 => points_race_l2 x2 g t j m x15 x10) ((((x10.toNat - (i : Int).toNat : Nat) : Int) - 0).toNat + 2) x8 0) else Chk (cutB (i : Int) x10 x2.length) (points_race_l4 x10 (i : Int) x11 x2 (fun x15 => points_race_l2 x2 g t j m x15 x10) ((((x10.toNat - (i : Int).toNat : Nat) : Int) - 0).toNat + 2) x8 0))) (x2.length - i) (((x2.length : Int) - (i : Int)).toNat + 2) i 0 (by omega) (by omega) (by omega) (by omega) (by omega)
      rw [e, chk_pos hg0]
      have hik := q5 rfl
      have hs50 : s' ≤ 50 := by omega
      have fin : ∀ a : Int, 0 ≤ a → a ≤ 100 → ∃ out, Chk (cutB (i : Int) (k' : Int) x2.length) (points_race_l4 (k' : Int) (i : Int) a x2 (fun x15 => points_race_l2 x2 g t j m x15 (k' : Int)) (((((k' : Int).toNat - (i : Int).toNat : Nat) : Int) - 0).toNat + 2) x8 0) = j out ∧ out.length = x8.length ∧ (∀ r ∈ out, RowOk L r) := by
        intro a ha ha'
        rw [chk_pos (cutB_iff.2 (by omega))]
        obtain ⟨o1, e1, g1, g2⟩ := race_l4 L x2 i k' a ha ha' hik q2 h5 (fun x15 => points_race_l2 x2 g t j m x15 (k' : Int)) (k' - i) (((((k' : Int).toNat - (i : Int).toNat : Nat) : Int) - 0).toNat + 2) 0 x8 (by omega) (by simp) h3 h4
        obtain ⟨o2, e2, g3, g4⟩ := race_l2 t ht L g hg x2 h5 j m k' o1 (by omega) q2 (fun s hs => by rw [g1]; exact h3 s hs) g2
        exact ⟨o2, e1.trans e2, by omega, g4⟩
      have hrel := ht.rel
      split
      · have hr2 : t.Relay = 1 ∨ t.Relay = 2 := by omega
        have hm : 0 ≤ s' * t.Relay ∧ s' * t.Relay ≤ 100 := by rcases hr2 with h | h <;> rw [h] <;> omega
        rw [W_in (by omega) (by omega)]
        exact fin _ hm.1 hm.2
      · exact fin _ q3 (by omega)
    · rw [if_neg (by simp; omega)]
      exact ⟨x8, rfl, rfl, h4⟩
theorem race_is (t : GTable) (ht : TOk t) (L g : List GScored) (hg : g ≠ []) (h5 : g.length ≤ 5) (hL : ∀ x ∈ g, x ∈ L) : ∃ R, points_race t g = some R ∧ R.length ≤ g.length ∧ ∀ r ∈ R, RowOk L r := by
  unfold points_race
  simp only [join_eq]
  obtain ⟨mp, sw, out, e, g1, g2, g3, g4⟩ := race_l1 t L (fun _ x2 x3 => points_race_l2 x2 g t (fun x8 => some x8) (((x2.length : Int) - 0).toNat + 2) x3 0) g 0 [] [] [] hL (fun _ h => by cases h) (Nat.le_refl _) (by simpa using h5) (fun _ h => by cases h)
  simp only [List.length_nil, Nat.zero_add] at g3
  rw [e]
  obtain ⟨o, e2, k1, k2⟩ := race_l2 t ht L g hg sw (by omega) (fun x8 => some x8) (((sw.length : Int) - 0).toNat + 2) 0 out (by omega) (by omega) g1 g4
  exact ⟨o, by rw [← e2]; rfl, by omega, k2⟩
theorem rows_l (t : GTable) (ht : TOk t) (L : List GScored) (j : List Gpoints_row → Option (List Gpoints_row)) : ∀ (Gs : List (List GScored)) (i : Nat) (x1 : List Gpoints_row), (∀ g ∈ Gs, g ≠ [] ∧ g.length ≤ 5 ∧ ∀ x ∈ g, x ∈ L) → x1.length + Gs.flatten.length ≤ 10000 → (∀ r ∈ x1, RowOk L r) →
    ∃ R, points_rows_l1 t j Gs i x1 = j R ∧ R.length ≤ x1.length + Gs.flatten.length ∧ ∀ r ∈ R, RowOk L r
  | [], i, x1, _, _, h => ⟨x1, rfl, by simp, h⟩
  | g :: Gs, i, x1, h1, h2, h3 => by
    obtain ⟨k1, k2, k3⟩ := h1 g List.mem_cons_self
    obtain ⟨R, e, g1, g2⟩ := race_is t ht L g k1 k2 k3
    simp only [List.flatten_cons, List.length_append] at h2 ⊢
    rw [points_rows_l1, e, Option.bind_some, chk_pos (by simp; omega)]
    obtain ⟨R2, e2, g3, g4⟩ := rows_l t ht L j Gs (i + 1) (x1 ++ R) (fun g' h' => h1 g' (List.mem_cons_of_mem _ h')) (by rw [List.length_append]; omega) (fun r hr => by
      rcases List.mem_append.1 hr with hr | hr
      · exact h3 r hr
      · exact g2 r hr)
    simp only [List.length_append] at g3
    exact ⟨R2, e2, by omega, g4⟩
theorem rows_is (t : GTable) (ht : TOk t) (Gs : List (List GScored)) (h1 : ∀ g ∈ Gs, One g ∧ g.length ≤ 5) (h2 : Gs.Pairwise (fun g g' => ∀ x ∈ g, ∀ y ∈ g', x.Race ≠ y.Race)) (hl : Gs.flatten.length ≤ 15) : ∃ R, points_rows t Gs.flatten = some R ∧ R.length ≤ 15 ∧ ∀ r ∈ R, RowOk Gs.flatten r := by
  unfold points_rows
  rw [races_is Gs (fun g hg => (h1 g hg).1) h2 (by omega)]
  simp only [Option.bind_some, join_eq]
  obtain ⟨R, e, g1, g2⟩ := rows_l t ht Gs.flatten (fun x1 => some x1) Gs 0 [] (fun g hg => ⟨(h1 g hg).1.1, (h1 g hg).2, fun x hx => List.mem_flatten.2 ⟨g, hg, hx⟩⟩) (by rw [List.length_nil]; omega) (fun _ h => by cases h)
  exact ⟨R, e, by rw [List.length_nil] at g1; omega, g2⟩
end Go.Proofs.YteppmbaanjlmmaaGreatDoor
