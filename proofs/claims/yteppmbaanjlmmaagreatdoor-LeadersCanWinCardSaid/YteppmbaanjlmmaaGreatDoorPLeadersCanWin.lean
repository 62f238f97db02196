/- The plain law of LeadersCanWin. No program stands here but its twins. -/
import Derived.Test.YteppmbaanjlmmaaGreatDoorPPtsM
import Derived.Test.YteppmbaanjlmmaaGreatDoorPReady
import Derived.Test.YteppmbaanjlmmaaGreatDoorPMembers
namespace Go.Proofs.YteppmbaanjlmmaaGreatDoor
open Go
theorem ranks_l1 (j : Option (List Int × Int)) : ∀ (Y : List GGiven) (i : Nat), (∀ y ∈ Y, y.Key ≠ k_empty ∧ Fo 90000 y.Points) → points_Ranks_l1 j Y i = j
  | [], _, _ => rfl
  | y :: Y, i, h => by
    obtain ⟨h1, h2, h3⟩ := h y List.mem_cons_self
    obtain ⟨n, d, e, d1, d2, n1, _⟩ := fr_parts (val y.Points)
    rw [points_Ranks_l1, if_neg (by simpa using h1), h2, e]
    have w1 : words_Within (d : Int) 1 1000000 = true := by unfold words_Within; simp; omega
    have w2 : words_Within (n : Int) 0 1000000000 = true := by unfold words_Within; simp; omega
    simp only [w1, w2, Bool.not_true, Bool.or_self, Bool.false_eq_true, if_false]
    exact ranks_l1 j Y (i + 1) fun z hz => h z (List.mem_cons_of_mem _ hz)
theorem ranks_l3 (y : GGiven) (hy : Fo 90000 y.Points) (j : Int → Option (List Int × Int)) : ∀ (Y : List GGiven) (i : Nat) (x : Int), (∀ z ∈ Y, Fo 90000 z.Points) → 0 ≤ x → x + Y.length ≤ 1000 → points_Ranks_l3 y j Y i x = j (x + (Y.countP fun z => decide (val y.Points < val z.Points) : Nat))
  | [], i, x, _, _, _ => by rw [points_Ranks_l3]; simp
  | z :: Y, i, x, h, h0, hl => by
    simp only [List.length_cons] at hl
    have hz := h z List.mem_cons_self
    have hm : points_more z.Points y.Points = decide (val y.Points < val z.Points) := by
      have b1 := hz.2
      have b2 := hy.2
      rw [hz.1, hy.1, more_fr (by omega) (by omega), val_fr, val_fr]
    rw [points_Ranks_l3, List.countP_cons, hm]
    simp only [join_eq]
    have hY : ∀ z ∈ Y, Fo 90000 z.Points := fun z hz => h z (List.mem_cons_of_mem _ hz)
    cases hb : decide (val y.Points < val z.Points) with
    | true =>
      rw [if_pos rfl, W_in (by omega) (by omega), ranks_l3 y hy j Y (i + 1) (x + 1) hY (by omega) (by omega)]
      simp only [if_true]
      congr 1; omega
    | false =>
      rw [if_neg (by simp), ranks_l3 y hy j Y (i + 1) x hY h0 (by omega)]
      simp
theorem ranks_l2 (Y : List GGiven) (hY : ∀ z ∈ Y, Fo 90000 z.Points) (hl : Y.length ≤ 5) (j : List Int → Option (List Int × Int)) : ∀ (ys : List GGiven) (i : Nat) (x : List Int), (∀ z ∈ ys, z ∈ Y) → x.length + ys.length ≤ 1000 →
    points_Ranks_l2 Y j ys i x = j (x ++ ys.map fun y => 1 + ((Y.countP fun z => decide (val y.Points < val z.Points) : Nat) : Int))
  | [], i, x, _, _ => by rw [points_Ranks_l2]; simp
  | y :: ys, i, x, h, hx => by
    simp only [List.length_cons] at hx
    rw [points_Ranks_l2]
    simp only [join_eq]
    rw [ranks_l3 y (hY y (h y List.mem_cons_self)) _ Y 0 1 hY (by omega) (by omega), chk_pos (by unfold room; simp; omega), ranks_l2 Y hY hl j ys (i + 1) _ (fun z hz => h z (List.mem_cons_of_mem _ hz)) (by simp; omega)]
    simp
theorem Ranks_is (Y : List GGiven) (h : ∀ y ∈ Y, y.Key ≠ k_empty ∧ Fo 90000 y.Points) (hl : Y.length ≤ 5) : points_Ranks Y = some (Y.map fun y => 1 + ((Y.countP fun z => decide (val y.Points < val z.Points) : Nat) : Int), 0) := by
  unfold points_Ranks
  rw [if_neg (by simp; omega)]
  simp only [join_eq]
  rw [ranks_l1 _ Y 0 h, ranks_l2 Y (fun z hz => (h z hz).2) hl _ Y 0 [] (fun _ h => h) (by simp; omega), List.nil_append]
/-! ### Who can win -/
theorem left_l (t : GTable) (ht : TOk t) (x1 a r : Int) (ha : 0 ≤ a ∧ a ≤ 3) (hr : 0 ≤ r ∧ r ≤ 3) : ∀ (ys : List Int) (i : Nat) (x : Int), (∀ n ∈ ys, 0 ≤ n ∧ n ≤ 10) → 0 ≤ x → x + 90 * ys.length ≤ 100000 →
    0 ≤ points_left_l1 r t x1 a (fun x2 => x2) ys i x ∧ points_left_l1 r t x1 a (fun x2 => x2) ys i x ≤ x + 90 * ys.length
  | [], i, x, _, h, _ => ⟨h, by simp [points_left_l1]⟩
  | n :: ys, i, x, h, h0, hl => by
    simp only [List.length_cons] at hl ⊢
    have hn := h n List.mem_cons_self
    have m1 : 0 ≤ a * n ∧ a * n ≤ 30 := ⟨Int.mul_nonneg ha.1 hn.1, by
      have := Int.mul_le_mul ha.2 hn.2 hn.1 (by omega); omega⟩
    have hrel := ht.rel
    have m2 : 0 ≤ r * t.Relay ∧ r * t.Relay ≤ 6 := ⟨Int.mul_nonneg hr.1 (by omega), by
      have := Int.mul_le_mul hr.2 hrel.2 (by omega) (by omega); omega⟩
    have m3 : 0 ≤ r * t.Relay * n ∧ r * t.Relay * n ≤ 60 := ⟨Int.mul_nonneg m2.1 hn.1, by
      have := Int.mul_le_mul m2.2 hn.2 hn.1 (by omega); omega⟩
    have hys : ∀ z ∈ ys, 0 ≤ z ∧ z ≤ 10 := fun z hz => h z (List.mem_cons_of_mem _ hz)
    have next : ∀ x', 0 ≤ x' → x' ≤ x + 90 → 0 ≤ points_left_l1 r t x1 a (fun x2 => x2) ys (i + 1) x' ∧ points_left_l1 r t x1 a (fun x2 => x2) ys (i + 1) x' ≤ x + 90 * ((ys.length + 1 : Nat) : Int) := by
      intro x' g1 g2
      have := left_l t ht x1 a r ha hr ys (i + 1) x' hys g1 (by omega)
      omega
    rw [points_left_l1]
    simp only [join_eq]
    have w1 : W (a * n) = a * n := W_in (by omega) (by omega)
    have w2 : W (r * t.Relay) = r * t.Relay := W_in (by omega) (by omega)
    have w3 : W (r * t.Relay * n) = r * t.Relay * n := W_in (by omega) (by omega)
    have w4 : W (x + a * n) = x + a * n := W_in (by omega) (by omega)
    have w5 : W (x + r * t.Relay * n) = x + r * t.Relay * n := W_in (by omega) (by omega)
    have w6 : W (x + a * n + r * t.Relay * n) = x + a * n + r * t.Relay * n := W_in (by omega) (by omega)
    rw [w1, w2, w3, w4]
    split
    · split
      · rw [w6]; exact next _ (by omega) (by omega)
      · exact next _ (by omega) (by omega)
    · split
      · rw [w5]; exact next _ (by omega) (by omega)
      · exact next _ (by omega) (by omega)
theorem left_0 (t : GTable) (x1 : Int) : ∀ (ys : List Int) (i : Nat), points_left_l1 0 t x1 0 (fun x2 => x2) ys i 0 = 0
  | [], _ => rfl
  | n :: ys, i => by
    have ih := left_0 t x1 ys (i + 1)
    rw [points_left_l1]
    simp only [join_eq, Int.zero_mul, show W 0 = 0 from rfl, Int.add_zero, ih]
    split <;> split <;> rfl
theorem left_rng (t : GTable) (ht : TOk t) (a b c : Int) (ha : 0 ≤ a ∧ a ≤ 3) (hc : 0 ≤ c ∧ c ≤ 3) : 0 ≤ points_left t a b c ∧ points_left t a b c ≤ 450 := by
  have hl := ht.len
  have go : ∀ x1, 0 ≤ points_left_l1 c t x1 a (fun x2 => x2) t.Points 0 0 ∧ points_left_l1 c t x1 a (fun x2 => x2) t.Points 0 0 ≤ 450 := fun x1 => by
    have := left_l t ht x1 a c ha hc t.Points 0 0 ht.rng (by omega) (by omega)
    omega
  unfold points_left
  simp only [join_eq]
  split
  · exact go _
  · exact go _
theorem left_zero (t : GTable) : points_left t 0 0 0 = 0 := by
  unfold points_left
  simp only [join_eq]
  split
  · exact left_0 t _ t.Points 0
  · exact left_0 t _ t.Points 0
theorem fr_whole (n : Nat) : fr (n * 60) = ⟨(n : Int), 1⟩ := by
  unfold fr
  have h : Nat.gcd (n * 60) 60 = 60 := by rw [Nat.gcd_comm]; exact Nat.gcd_eq_left (Nat.dvd_mul_left _ _)
  rw [h, Nat.mul_div_cancel _ (by decide)]
  rfl
/-- Somebody else has more, and what is left does not help. -/
def beat (n : Nat) (x y : GGiven) : Bool := !decide (y.Key = x.Key) && decide (val x.Points + n * 60 < val y.Points)
theorem win_c1 {n : Nat} (hn : n ≤ 450) {x y : GGiven} (hx : Fo 90000 x.Points) (hy : Fo 90000 y.Points) : points_CanWin_c1 y x (GFraction.mk (n : Int) 1) = some (beat n x y) := by
  have b1 := hx.2
  have b2 := hy.2
  unfold points_CanWin_c1 beat
  simp only [join_eq]
  by_cases h : y.Key = x.Key
  · rw [if_neg (by simp [h])]; simp [h]
  · rw [if_pos (by simp [h]), ← fr_whole]
    have e : points_add x.Points (fr (n * 60)) = some (fr (val x.Points + n * 60)) := by
      have := add_fr (u := val x.Points) (v := n * 60) (by omega) (by omega)
      rwa [← hx.1] at this
    have m := more_fr (u := val y.Points) (v := val x.Points + n * 60) (by omega) (by omega)
    rw [← hy.1] at m
    rw [e, Option.bind_some, m]
    simp [h]
theorem win_any {n : Nat} (hn : n ≤ 450) (x : GGiven) (hx : Fo 90000 x.Points) : ∀ (Y : List GGiven) (i : Nat), (∀ y ∈ Y, Fo 90000 y.Points) → ∃ k, slices_IndexFunc_Given_points_CanWin_c1_l1 x (GFraction.mk (n : Int) 1) (some (-1)) Y i = some k ∧ decide (0 ≤ k) = Y.any (beat n x)
  | [], i, _ => ⟨-1, rfl, rfl⟩
  | y :: Y, i, h => by
    rw [slices_IndexFunc_Given_points_CanWin_c1_l1, win_c1 hn hx (h y List.mem_cons_self), Option.bind_some, List.any_cons]
    cases hb : beat n x y with
    | true => exact ⟨(i : Int), by rw [if_pos rfl], by rw [Bool.true_or]; exact decide_eq_true (by omega)⟩
    | false =>
      rw [if_neg (by simp), Bool.false_or]
      exact win_any hn x hx Y (i + 1) fun z hz => h z (List.mem_cons_of_mem _ hz)
theorem win_l (Y : List GGiven) (hY : ∀ y ∈ Y, Fo 90000 y.Points) (t : GTable) (a b c : Int) (n : Nat) (hn : n ≤ 450) (hleft : points_left t a b c = (n : Int)) (j : List ByteArray → Option (List ByteArray × Int)) : ∀ (ys : List GGiven) (i : Nat) (x : List ByteArray), (∀ y ∈ ys, y ∈ Y) → x.length + ys.length ≤ 1000 →
    points_CanWin_l1 Y t a b c j ys i x = j (x ++ (ys.filter fun y => !Y.any (beat n y)).map (·.Key))
  | [], i, x, _, _ => by rw [points_CanWin_l1]; simp
  | y :: ys, i, x, h, hl => by
    simp only [List.length_cons] at hl
    obtain ⟨k, e, hk⟩ := win_any hn y (hY y (h y List.mem_cons_self)) Y 0 hY
    rw [points_CanWin_l1]
    unfold slices_ContainsFunc_Given_points_CanWin_c1 slices_IndexFunc_Given_points_CanWin_c1
    simp only [join_eq]
    rw [hleft, e]
    simp only [Option.bind_some, hk, List.filter_cons]
    have hys : ∀ z ∈ ys, z ∈ Y := fun z hz => h z (List.mem_cons_of_mem _ hz)
    cases hb : Y.any (beat n y) with
    | true =>
      rw [if_neg (by simp), win_l Y hY t a b c n hn hleft j ys (i + 1) x hys (by omega)]
      simp
    | false =>
      rw [if_pos (by simp), chk_pos (by unfold room; simp; omega), win_l Y hY t a b c n hn hleft j ys (i + 1) _ hys (by simp; omega)]
      simp
theorem win_mem {Y : List GGiven} (hk : (Y.map (·.Key)).Nodup) {y : GGiven} (hy : y ∈ Y) (P : GGiven → Bool) : slices_Contains_string ((Y.filter P).map (·.Key)) y.Key = P y := by
  rw [contains_str, Bool.eq_iff_iff, List.any_eq_true]
  constructor
  · rintro ⟨k, h1, h2⟩
    obtain ⟨z, hz, rfl⟩ := List.mem_map.1 h1
    obtain ⟨hz1, hz2⟩ := List.mem_filter.1 hz
    have he : y.Key = z.Key := of_decide_eq_true h2
    have : ∀ (Y : List GGiven), (Y.map (·.Key)).Nodup → y ∈ Y → z ∈ Y → y = z := by
      intro Y
      induction Y with
      | nil => intro _ h; cases h
      | cons u Y ih =>
        intro hn h1 h2
        rw [List.map_cons, List.nodup_cons] at hn
        rcases List.mem_cons.1 h1 with rfl | g1
        · rcases List.mem_cons.1 h2 with rfl | g2
          · rfl
          · exact (hn.1 (List.mem_map.2 ⟨z, g2, he.symm⟩)).elim
        · rcases List.mem_cons.1 h2 with rfl | g2
          · exact (hn.1 (List.mem_map.2 ⟨y, g1, he⟩)).elim
          · exact ih hn.2 g1 g2
    rw [this Y hk hy hz1]; exact hz2
  · intro h
    exact ⟨y.Key, List.mem_map.2 ⟨y, List.mem_filter.2 ⟨hy, h⟩, rfl⟩, by simp⟩
theorem canWin_is {t : GTable} {Gs : List (List GScored)} {m : List (ByteArray × GFraction)} {Y : List GGiven} (ht : TGood t) (hG : LGd Gs) (c1 : points_clubs t Gs.flatten = some m) (c2 : points_sums m = some Y) (hY : ∀ y ∈ Y, Fo 90000 y.Points) (hl : Y.length ≤ 5) (a b c : Int) (ha : 0 ≤ a ∧ a ≤ 3) (hb : 0 ≤ b ∧ b ≤ 3) (hc : 0 ≤ c ∧ c ≤ 3) :
    ∃ n : Nat, n ≤ 450 ∧ points_left t a b c = (n : Int) ∧ points_CanWin t Gs.flatten a b c = some ((Y.filter fun y => !Y.any (beat n y)).map (·.Key), 0) := by
  have hr := left_rng t ht.toTOk a b c ha hc
  obtain ⟨n, hn⟩ := Int.eq_ofNat_of_zero_le hr.1
  refine ⟨n, by omega, hn, ?_⟩
  have hcl : points_checkLeft a b c = 0 := by
    unfold points_checkLeft
    have w1 : words_Within a 0 100 = true := by unfold words_Within; simp; omega
    have w2 : words_Within b 0 10 = true := by unfold words_Within; simp; omega
    have w3 : words_Within c 0 100 = true := by unfold words_Within; simp; omega
    rw [w1, w2, w3]; rfl
  unfold points_CanWin
  rw [both_ok ht hG]
  simp only [Option.bind_some, decide_true, Bool.not_true, Bool.false_eq_true, if_false, hcl, c1, c2, join_eq]
  rw [win_l Y hY t a b c n (by omega) hn _ Y 0 [] (fun _ h => h) (by simp; omega), List.nil_append]
theorem count_beat {Y : List GGiven} (hk : (Y.map (·.Key)).Nodup) {y : GGiven} (hy : y ∈ Y) : decide ((1 + ((Y.countP fun z => decide (val y.Points < val z.Points) : Nat) : Int)) = 1) = !Y.any (beat 0 y) := by
  have hkey : ∀ z ∈ Y, z.Key = y.Key → val z.Points = val y.Points := by
    intro z hz e
    have : ∀ (Y : List GGiven), (Y.map (·.Key)).Nodup → y ∈ Y → z ∈ Y → y = z := by
      intro Y
      induction Y with
      | nil => intro _ h; cases h
      | cons u Y ih =>
        intro hn h1 h2
        rw [List.map_cons, List.nodup_cons] at hn
        rcases List.mem_cons.1 h1 with rfl | g1
        · rcases List.mem_cons.1 h2 with rfl | g2
          · rfl
          · exact (hn.1 (List.mem_map.2 ⟨z, g2, e⟩)).elim
        · rcases List.mem_cons.1 h2 with rfl | g2
          · exact (hn.1 (List.mem_map.2 ⟨y, g1, e.symm⟩)).elim
          · exact ih hn.2 g1 g2
    rw [this Y hk hy hz]
  rw [Bool.eq_iff_iff, decide_eq_true_eq, Bool.not_eq_true', List.any_eq_false]
  constructor
  · intro h z hz hb
    have h0 : (Y.countP fun z => decide (val y.Points < val z.Points)) = 0 := by omega
    have := List.countP_eq_zero.1 h0 z hz
    unfold beat at hb
    simp at this hb
    omega
  · intro h
    have h0 : (Y.countP fun z => decide (val y.Points < val z.Points)) = 0 := by
      rw [List.countP_eq_zero]
      intro z hz
      have := h z hz
      unfold beat at this
      simp only [Bool.and_eq_true, Bool.not_eq_true', decide_eq_false_iff_not, decide_eq_true_eq, not_and, Nat.zero_mul, Nat.add_zero] at this ⊢
      intro hlt
      by_cases e : z.Key = y.Key
      · have := hkey z hz e; omega
      · exact this e hlt
    rw [h0]; rfl
theorem lead_l (Y : List GGiven) (hk : (Y.map (·.Key)).Nodup) (hl : Y.length ≤ 5) (n : Nat) (e1 e2 e3 : Int) (j : Option Bool) : ∀ (ys dn : List GGiven), Y = dn ++ ys →
    tumbkeep2_LeadersCanWin_l1 (Y.map (fun y => 1 + ((Y.countP fun z => decide (val y.Points < val z.Points) : Nat) : Int)), e1) ((Y.filter fun y => !Y.any (beat 0 y)).map (·.Key), e2) ((Y.filter fun y => !Y.any (beat n y)).map (·.Key), e3) j ys dn.length = j
  | [], _, _ => rfl
  | y :: ys, dn, h => by
    have hy : y ∈ Y := by rw [h]; simp
    have ih := lead_l Y hk hl n e1 e2 e3 j ys (dn ++ [y]) (by rw [h]; simp)
    rw [List.length_append, List.length_singleton] at ih
    have hyl : dn.length < Y.length := by rw [h]; simp
    have hin : inB (dn.length : Int) (Y.map (fun y => 1 + ((Y.countP fun z => decide (val y.Points < val z.Points) : Nat) : Int))).length = true := inB_iff.2 (by rw [List.length_map]; omega)
    have hn : nth (Y.map (fun y => 1 + ((Y.countP fun z => decide (val y.Points < val z.Points) : Nat) : Int))) (dn.length : Int) = 1 + ((Y.countP fun z => decide (val y.Points < val z.Points) : Nat) : Int) := by
      have hg : Y[dn.length]? = some y := by rw [h]; simp
      unfold nth
      rw [Int.toNat_natCast, List.getD, List.getElem?_map, hg]; rfl
    rw [tumbkeep2_LeadersCanWin_l1]
    simp only [join_eq]
    rw [chk_pos hin, hn, count_beat hk hy, win_mem hk hy, win_mem hk hy]
    rw [if_neg (by simp), chk_pos hin]
    split
    · rename_i hb
      have hw : Y.any (beat n y) = false := by
        simp only [Bool.not_eq_true'] at hb
        rw [List.any_eq_false] at hb ⊢
        intro z hz hc
        refine hb z hz ?_
        unfold beat at hc ⊢
        simp only [Bool.and_eq_true, Bool.not_eq_true', decide_eq_false_iff_not, decide_eq_true_eq] at hc ⊢
        exact ⟨hc.1, by omega⟩
      rw [hw]
      simpa using ih
    · rw [chk_pos hin, if_neg (by simp)]
      exact ih
theorem plain_LeadersCanWin (l : List Int) (hl : l.length ≤ 9223372036854775807) : tumbkeep2_LeadersCanWin l = some true := by
  have hL : LongL l := by unfold LongL; omega
  obtain ⟨t, a1, e1, p1, q1, ht⟩ := table_dr hL (a := 0) (by omega) (by omega)
  obtain ⟨_, a2, e2, p2, q2, Gs, rfl, hG⟩ := scored_dr hL (a := a1) (by omega) (by omega)
  obtain ⟨R, m, Y, _, _, _, c1, c2, c3, y1, y2, y3, y4, _⟩ := Clubs_is ht hG
  obtain ⟨v1, a3, e3, p3, q3, m1, m1'⟩ := range_dr hL (a := a2) (by omega) (by omega) 0 3 (by omega) (by omega) (by omega)
  obtain ⟨v2, a4, e4, p4, q4, m2, m2'⟩ := range_dr hL (a := a3) (by omega) (by omega) 0 3 (by omega) (by omega) (by omega)
  obtain ⟨v3, a5, e5, p5, q5, m3, m3'⟩ := range_dr hL (a := a4) (by omega) (by omega) 0 3 (by omega) (by omega) (by omega)
  have hR := Ranks_is Y (fun y hy => ⟨y3 y hy, y4 y hy⟩) y1
  obtain ⟨n, _, _, w1⟩ := canWin_is ht hG c1 c2 y4 y1 v1 v2 v3 (by omega) (by omega) (by omega)
  obtain ⟨n0, _, hn0, w2⟩ := canWin_is ht hG c1 c2 y4 y1 0 0 0 (by omega) (by omega) (by omega)
  rw [left_zero] at hn0
  have hn0' : n0 = 0 := by omega
  subst hn0'
  have he : tumbkeep2_errs [0, 0, 0, 0] = 0 := by decide +kernel
  unfold tumbkeep2_LeadersCanWin
  rw [e1]; simp only [Option.bind_some]
  rw [e2]; simp only [Option.bind_some]
  rw [c3]; simp only [Option.bind_some]
  rw [hR]; simp only [Option.bind_some]
  rw [e3]; simp only [Option.bind_some]
  rw [e4]; simp only [Option.bind_some]
  rw [e5]; simp only [Option.bind_some]
  rw [w1, w2]
  simp only [Option.bind_some, join_eq, he]
  rw [if_neg (by simp)]
  have := lead_l Y y2 y1 n 0 0 0 (Option.bind (tumbkeep2_ready) (fun r10 => some r10)) Y [] rfl
  rw [List.length_nil] at this
  rw [this, ready_ok]
  rfl
end Go.Proofs.YteppmbaanjlmmaaGreatDoor
