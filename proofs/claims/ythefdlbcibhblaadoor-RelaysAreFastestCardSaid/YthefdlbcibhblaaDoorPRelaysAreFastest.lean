/- The plain law of RelaysAreFastest. No program stands here but its twins. -/
import Derived.Test.YthefdlbcibhblaaDoorPLegsR
import Derived.Test.YthefdlbcibhblaaDoorPReady
namespace Go.Proofs.YthefdlbcibhblaaDoor
open Go
theorem idx_leg (k : ByteArray) : ∀ (l : List GLeg) (i : Nat), (∃ n x, slices_IndexFunc_Leg_tumbkeep2_RelaysAreFastest_c1_c1_l1 k (-1) l i = ((i + n : Nat) : Int) ∧ l.find? (fun x => decide (x.Who = k)) = some x ∧ l[n]? = some x) ∨
    (slices_IndexFunc_Leg_tumbkeep2_RelaysAreFastest_c1_c1_l1 k (-1) l i = -1 ∧ l.find? (fun x => decide (x.Who = k)) = none)
  | [], _ => .inr ⟨rfl, rfl⟩
  | y :: l, i => by
    rw [slices_IndexFunc_Leg_tumbkeep2_RelaysAreFastest_c1_c1_l1, List.find?_cons]
    unfold tumbkeep2_RelaysAreFastest_c1_c1
    by_cases h : y.Who = k
    · left
      rw [if_pos (decide_eq_true h), decide_eq_true h]
      exact ⟨0, y, rfl, rfl, rfl⟩
    · rw [if_neg (by simpa using h), decide_eq_false h]
      rcases idx_leg k l (i + 1) with ⟨n, x, h1, h2, h3⟩ | h
      · left; exact ⟨n + 1, x, by rw [h1, show i + 1 + n = i + (n + 1) by omega], h2, by simpa using h3⟩
      · exact .inr h
theorem tm_rng {l : List GLeg} (hl : LGood l) (k : ByteArray) {i : Nat} (hi : i < 4) : 0 ≤ tm l k i ∧ tm l k i ≤ 360000 := by
  unfold tm
  split
  · omega
  · rename_i x hx
    have hm := List.mem_of_find?_eq_some hx
    exact hl.rng x hm _ (nth_mem (inB_iff.2 (by have := hl.four x hm; omega)))
theorem time_is {l : List GLeg} (hl : LGood l) (k : ByteArray) {i : Nat} (hi : i < 4) : tumbkeep2_RelaysAreFastest_c1 k (i : Int) l = some (tm l k i) := by
  unfold tumbkeep2_RelaysAreFastest_c1 slices_IndexFunc_Leg_tumbkeep2_RelaysAreFastest_c1_c1 tm
  simp only [join_eq]
  rcases idx_leg k l 0 with ⟨n, x, h1, h2, h3⟩ | ⟨h1, h2⟩
  · simp only [h1, h2]
    rw [if_neg (by simp)]
    have hm := List.mem_of_getElem? h3
    have hlt : n < l.length := by
      rcases Nat.lt_or_ge n l.length with h | h
      · exact h
      · rw [List.getElem?_eq_none h] at h3; cases h3
    have hn : nth l ((0 + n : Nat) : Int) = x := by
      unfold nth
      rw [Int.toNat_natCast, Nat.zero_add, List.getD, h3]; rfl
    rw [chk_pos (inB_iff.2 (by omega)), hn, chk_pos (inB_iff.2 (by have := hl.four x hm; omega))]
  · simp only [h1, h2]
    rw [if_pos (by simp)]
theorem totF_rng {l : List GLeg} (hl : LGood l) : ∀ (f : List ByteArray) (i : Nat), i + f.length ≤ 4 → 0 ≤ totF l f i ∧ totF l f i ≤ 360000 * f.length
  | [], _, _ => by simp [totF]
  | k :: f, i, h => by
    simp only [List.length_cons] at h ⊢
    have h1 := totF_rng hl f (i + 1) (by omega)
    have h2 := tm_rng hl k (i := i) (by omega)
    simp only [totF]
    push_cast
    omega
/-- Two legs of the fastest relay exchanged: not faster. -/
theorem swap_le {l : List GLeg} {a m r : List ByteArray} {o k : ByteArray} (h4 : (a ++ o :: (m ++ k :: r)).length = 4) (hv : Vd l (a ++ o :: (m ++ k :: r))) (hmin : ∀ f, Cp l [] f → totF l (a ++ o :: (m ++ k :: r)) 0 ≤ totF l f 0)
    (h1 : tm l o (a.length + 1 + m.length) ≠ 0) (h2 : tm l k a.length ≠ 0) : tm l k (a.length + 1 + m.length) + tm l o a.length ≤ tm l o (a.length + 1 + m.length) + tm l k a.length := by
  have hp : (a ++ k :: (m ++ o :: r)).Perm (a ++ o :: (m ++ k :: r)) := by
    refine List.Perm.append_left a ?_
    have e1 : (k :: (m ++ o :: r)).Perm (k :: o :: (m ++ r)) := (List.perm_middle).cons k
    have e2 : (o :: (m ++ k :: r)).Perm (o :: k :: (m ++ r)) := (List.perm_middle).cons o
    exact e1.trans ((List.Perm.swap o k _).trans e2.symm)
  have hc : Cp l [] (a ++ k :: (m ++ o :: r)) := by
    refine ⟨by rw [hp.length_eq]; exact h4, ⟨hp.nodup_iff.2 hv.1, fun i q hq => ?_⟩, _, rfl⟩
    rcases Nat.lt_trichotomy i a.length with hi | hi | hi
    · rw [List.getElem?_append_left hi] at hq
      exact hv.2 i q (by rw [List.getElem?_append_left hi]; exact hq)
    · subst hi
      simp at hq; subst hq; exact h2
    · rw [List.getElem?_append_right (by omega)] at hq
      obtain ⟨j, hj⟩ : ∃ j, i - a.length = j + 1 := ⟨i - a.length - 1, by omega⟩
      rw [hj, List.getElem?_cons_succ] at hq
      have back : ∀ q, (m ++ k :: r)[j]? = some q → tm l q i ≠ 0 := fun q hq => hv.2 i q (by rw [List.getElem?_append_right (by omega), hj, List.getElem?_cons_succ]; exact hq)
      rcases Nat.lt_trichotomy j m.length with hm | hm | hm
      · rw [List.getElem?_append_left hm] at hq
        exact back q (by rw [List.getElem?_append_left hm]; exact hq)
      · subst hm
        simp at hq; subst hq
        rw [show i = a.length + 1 + m.length by omega]; exact h1
      · rw [List.getElem?_append_right (by omega)] at hq
        obtain ⟨j', hj'⟩ : ∃ j', j - m.length = j' + 1 := ⟨j - m.length - 1, by omega⟩
        rw [hj', List.getElem?_cons_succ] at hq
        exact back q (by rw [List.getElem?_append_right (by omega), hj', List.getElem?_cons_succ]; exact hq)
  have := hmin _ hc
  simp only [totF_app, totF, Nat.zero_add] at this
  rw [show a.length + 1 + m.length + 1 = a.length + 1 + m.length + 1 from rfl] at this
  omega
theorem fast_l2 {l : List GLeg} (hl : LGood l) (a1 : Int) (who pre r : List ByteArray) (k : ByteArray) (hw : who = pre ++ k :: r) (h4 : who.length = 4) (hv : Vd l who) (hmin : ∀ f, Cp l [] f → totF l who 0 ≤ totF l f 0) (j : Option Bool) :
    ∀ (ys dn : List ByteArray), pre = dn ++ ys → tumbkeep2_RelaysAreFastest_l2 pre.length (l, a1) k j ys dn.length = j
  | [], _, _ => rfl
  | o :: ys, dn, h => by
    have hpl : pre.length = dn.length + (ys.length + 1) := by rw [h]; simp
    have h5 : pre.length < 4 := by rw [hw] at h4; simp at h4; omega
    have ih := fast_l2 hl a1 who pre r k hw h4 hv hmin j ys (dn ++ [o]) (by rw [h]; simp)
    rw [List.length_append, List.length_singleton] at ih
    rw [tumbkeep2_RelaysAreFastest_l2, time_is hl o h5, time_is hl k (i := dn.length) (by omega)]
    simp only [Option.bind_some, join_eq]
    by_cases hc : (decide (0 < tm l o pre.length) && decide (0 < tm l k dn.length)) = true
    · rw [if_pos hc, time_is hl k h5, time_is hl o (i := dn.length) (by omega)]
      simp only [Option.bind_some, hc, Bool.true_and]
      simp only [Bool.and_eq_true, decide_eq_true_eq] at hc
      have r1 := tm_rng hl o h5
      have r2 := tm_rng hl k (i := dn.length) (by omega)
      have r3 := tm_rng hl k h5
      have r4 := tm_rng hl o (i := dn.length) (by omega)
      have e : who = dn ++ o :: (ys ++ k :: r) := by rw [hw, h]; simp
      have hs := swap_le (l := l) (a := dn) (m := ys) (r := r) (o := o) (k := k) (by rw [← e]; exact h4) (by rw [← e]; exact hv) (by rw [← e]; exact hmin) (by rw [show dn.length + 1 + ys.length = pre.length by omega]; omega) (by omega)
      rw [show dn.length + 1 + ys.length = pre.length by omega] at hs
      rw [if_neg (by rw [W_in (by omega) (by omega), W_in (by omega) (by omega)]; simp; omega)]
      exact ih
    · rw [if_neg hc]
      simp only [Bool.not_eq_true] at hc
      rw [if_neg (by rw [hc]; simp)]
      exact ih
theorem fast_l1 {l : List GLeg} (hl : LGood l) (a1 : Int) (who : List ByteArray) (x : Int × Bool × Int) (h4 : who.length = 4) (hv : Vd l who) (hmin : ∀ f, Cp l [] f → totF l who 0 ≤ totF l f 0) (j : Int → Option Bool) :
    ∀ (ys dn : List ByteArray), who = dn ++ ys → tumbkeep2_RelaysAreFastest_l1 (l, a1) (who, x) j ys dn.length (totF l dn 0) = j (totF l who 0)
  | [], dn, h => by rw [h]; simp only [List.append_nil]; rfl
  | k :: ys, dn, h => by
    have hwl : who.length = dn.length + (ys.length + 1) := by rw [h]; simp
    have ih := fast_l1 hl a1 who x h4 hv hmin j ys (dn ++ [k]) (by rw [h]; simp)
    rw [List.length_append, List.length_singleton] at ih
    have hk : who[dn.length]? = some k := by rw [h]; simp
    have hne := hv.2 _ _ hk
    have hcut : cut who 0 (dn.length : Int) = dn := by rw [h]; simp [cut]
    have hcb : cutB 0 (dn.length : Int) who.length = true := cutB_iff.2 (by omega)
    have hno : slices_Contains_string dn k = false := by
      rw [contains_str]
      refine List.any_eq_false.2 fun v hv' => ?_
      simp only [decide_eq_true_eq]
      rintro rfl
      have := hv.1
      rw [h, List.nodup_append] at this
      exact this.2.2 _ hv' _ List.mem_cons_self rfl
    have hr := totF_rng hl dn 0 (by omega)
    have ht := tm_rng hl k (i := dn.length) (by omega)
    rw [tumbkeep2_RelaysAreFastest_l1, time_is hl k (by omega)]
    simp only [Option.bind_some, join_eq]
    rw [if_neg (by simpa using hne), chk_pos hcb, hcut, hno, decide_eq_false hne, if_neg (by simp), chk_pos hcb]
    have h2 := fun j' => fast_l2 hl a1 who dn ys k h h4 hv hmin j' dn [] rfl
    simp only [List.length_nil] at h2
    rw [h2, W_in (by omega) (by omega)]
    have e : totF l dn 0 + tm l k dn.length = totF l (dn ++ [k]) 0 := by rw [totF_app]; simp [totF]
    rw [e]
    exact ih
theorem plain_RelaysAreFastest (l : List Int) (hl : l.length ≤ 9223372036854775807) : tumbkeep2_RelaysAreFastest l = some true := by
  have hL : LongL l := by unfold LongL; omega
  obtain ⟨z, a1, e1, p1, q1, z1⟩ := legs_dr hL (a := 0) (by omega) (by omega)
  obtain ⟨e, f1, f2, f3⟩ := legs_eq z
  unfold tumbkeep2_RelaysAreFastest
  rw [e1]; simp only [Option.bind_some]
  rw [f2]; simp only [Option.bind_some]
  by_cases he : e = 0
  · subst he
    have hg := f3 rfl
    rw [if_neg (by simp)]
    obtain ⟨who, n, ok, g1, g2⟩ := fast_is f1 hg 0 (by omega) (by omega)
    rw [g1]; simp only [Option.bind_some, join_eq]
    cases ok with
    | false =>
      obtain ⟨_, h2, h3⟩ := g2.no rfl
      simp only at h2 h3
      subst h2 h3
      simp [ready_ok]
    | true =>
      rcases g2.src rfl with ⟨h, _⟩ | ⟨h4, hv, hn⟩
      · cases h
      · simp only at h4 hv hn
        have hmin : ∀ f, Cp z [] f → totF z who 0 ≤ totF z f 0 := fun f hf => by have := g2.least rfl (by omega) f hf; simp only at this; omega
        rw [if_neg (by simp)]
        obtain ⟨b, a2, e2, p2, q2, b1, b2⟩ := range_dr hL (a := a1) (by omega) (by omega) 1 4 (by omega) (by omega) (by omega)
        obtain ⟨few, m, is, k1, k2⟩ := fast_is f1 hg b (by omega) (by omega)
        have hl1 := fast_l1 hg a1 who (n, true, 0) h4 hv hmin
        have h0 : totF z [] 0 = 0 := rfl
        have hloop := fun j => hl1 j who [] rfl
        simp only [List.length_nil, h0] at hloop
        rw [hloop, e2]
        simp only [Option.bind_some]
        rw [k1]
        simp only [Option.bind_some]
        have hfew : ((!is) || ((decide (n ≤ m)) && (decide ((few.length : Int) = 4)))) = true := by
          cases is with
          | false => rfl
          | true =>
            rcases k2.src rfl with ⟨h, _⟩ | ⟨h5, hv5, hn5⟩
            · cases h
            · simp only at h5 hv5 hn5
              have := hmin few ⟨h5, hv5, few, rfl⟩
              simp [h5]; omega
        rw [if_pos (by simp only [hfew]; simp [h4, hn])]
        simp only [ready_ok, Option.bind_some, hfew]
        simp [h4, hn]
  · rw [if_pos (by simp [he]), ready_ok]; rfl
end Go.Proofs.YthefdlbcibhblaaDoor
