/- The plain law of RecordsNeverSlower. No program stands here but its twins. -/
import Derived.Test.YtikobclhcfiadaaGreatDoorPRecK
import Derived.Test.YtikobclhcfiadaaGreatDoorPReady
namespace Go.Proofs.YtikobclhcfiadaaGreatDoor
open Go
theorem kerrs_cons (a : Int) (l : List Int) : tumbkeep2_errs (a :: l) = if a ≠ 0 then a else tumbkeep2_errs l := by
  have hl : ∀ (l : List Int) (i j : Nat), tumbkeep2_errs_l1 0 l i = tumbkeep2_errs_l1 0 l j := by
    intro l
    induction l with
    | nil => intro _ _; rfl
    | cons x l ih =>
      intro i j
      rw [tumbkeep2_errs_l1, tumbkeep2_errs_l1, ih (i + 1) (j + 1)]
  unfold tumbkeep2_errs
  rw [joinR, joinR, tumbkeep2_errs_l1, hl l (0 + 1) 0]
  by_cases h : a = 0 <;> simp [h]
theorem kerrs_nil : tumbkeep2_errs [] = 0 := rfl
theorem sel_mem {α : Type} (P : α → Nat → Bool) {y : α} : ∀ (l : List α) (i : Nat), y ∈ sel P (fun y _ => y) l i → ∃ k, l[k]? = some y ∧ P y (i + k) = true
  | [], _, h => by cases h
  | x :: l, i, h => by
    unfold sel at h
    split at h
    · rename_i hx
      rcases List.mem_cons.1 h with rfl | h
      · exact ⟨0, rfl, by simpa using hx⟩
      · obtain ⟨k, h1, h2⟩ := sel_mem P l (i + 1) h
        exact ⟨k + 1, by simpa using h1, by rw [← h2]; congr 1; omega⟩
    · obtain ⟨k, h1, h2⟩ := sel_mem P l (i + 1) h
      exact ⟨k + 1, by simpa using h1, by rw [← h2]; congr 1; omega⟩
theorem sel_in {α : Type} (P : α → Nat → Bool) {y : α} : ∀ (l : List α) (i k : Nat), l[k]? = some y → P y (i + k) = true → y ∈ sel P (fun y _ => y) l i
  | [], _, _, h, _ => by simp at h
  | x :: l, i, 0, h, hp => by
    simp only [List.getElem?_cons_zero, Option.some.injEq] at h
    subst h
    unfold sel
    rw [if_pos (by simpa using hp)]
    simp
  | x :: l, i, k + 1, h, hp => by
    simp only [List.getElem?_cons_succ] at h
    have := sel_in P l (i + 1) k h (by rw [← hp]; congr 1; omega)
    unfold sel
    split
    · exact List.mem_cons_of_mem _ this
    · exact this
theorem firsts_at {u : List GStep} {s : GStep} (h : s ∈ firsts u) : ∃ k, u[k]? = some s ∧ s.Kind = 1 ∧ stf (u.take k) s.Id = 0 := by
  obtain ⟨k, h1, h2⟩ := sel_mem _ _ _ h
  rw [Nat.zero_add] at h2
  simp only [Bool.and_eq_true, decide_eq_true_eq] at h2
  exact ⟨k, h1, h2.1, h2.2⟩
theorem stf_app (p q : List GStep) (id : ByteArray) : stf (p ++ q) id = q.foldl (fun st s => if (decide (s.Id = id) && tumbref2_follows st s.Kind) then s.Kind else st) (stf p id) := by
  unfold stf
  rw [List.foldl_append]
theorem void_stays (id : ByteArray) : ∀ q : List GStep, q.foldl (fun st s => if (decide (s.Id = id) && tumbref2_follows st s.Kind) then s.Kind else st) 3 = 3
  | [] => rfl
  | s :: q => by
    have : tumbref2_follows 3 s.Kind = false := by
      unfold tumbref2_follows
      split
      · rfl
      · split <;> rfl
    rw [List.foldl_cons, this, Bool.and_false, if_neg (by simp)]
    exact void_stays id q
theorem state_stays (id : ByteArray) : ∀ (q : List GStep) (st : Int), (∀ s ∈ q, 1 ≤ s.Kind ∧ s.Kind ≤ 3) → 1 ≤ st → st ≤ 3 → 1 ≤ q.foldl (fun st s => if (decide (s.Id = id) && tumbref2_follows st s.Kind) then s.Kind else st) st ∧ q.foldl (fun st s => if (decide (s.Id = id) && tumbref2_follows st s.Kind) then s.Kind else st) st ≤ 3
  | [], st, _, h1, h2 => ⟨h1, h2⟩
  | s :: q, st, h, h1, h2 => by
    rw [List.foldl_cons]
    have := h s (by simp)
    split
    · exact state_stays id q _ (fun s hs => h s (List.mem_cons_of_mem _ hs)) (by omega) (by omega)
    · exact state_stays id q _ (fun s hs => h s (List.mem_cons_of_mem _ hs)) h1 h2
/-- What is struck later is void in the end. -/
theorem later_void {u : List GStep} (hg : ∀ s ∈ u, 1 ≤ s.Kind ∧ s.Kind ≤ 3) {i j : Nat} {s z : GStep} (hi : u[i]? = some s) (hj : u[j]? = some z) (hij : i < j) (hs : s.Kind = 1) (h0 : stf (u.take i) s.Id = 0) (hz : z.Kind = 3) (hid : z.Id = s.Id) : stf u s.Id = 3 := by
  have e1 : u.take (i + 1) = u.take i ++ [s] := by rw [List.take_add_one, hi]; rfl
  have e2 : u.take (j + 1) = u.take j ++ [z] := by rw [List.take_add_one, hj]; rfl
  have s1 : stf (u.take (i + 1)) s.Id = 1 := by
    rw [e1, stf_snoc, h0]
    simp [tumbref2_follows, hs]
  have e3 : u.take j = u.take (i + 1) ++ (u.take j).drop (i + 1) := by
    have := (List.take_append_drop (i + 1) (u.take j)).symm
    rwa [List.take_take, show min (i + 1) j = i + 1 by omega] at this
  have s2 : 1 ≤ stf (u.take j) s.Id ∧ stf (u.take j) s.Id ≤ 3 := by
    rw [e3, stf_app, s1]
    exact state_stays s.Id _ 1 (fun x hx => hg x (List.mem_of_mem_take (List.mem_of_mem_drop hx))) (by omega) (by omega)
  have s3 : stf (u.take (j + 1)) s.Id = 3 := by
    rw [e2, stf_snoc, hid, hz]
    by_cases h : stf (u.take j) s.Id = 3
    · rw [h]; split <;> rfl
    · have : tumbref2_follows (stf (u.take j) s.Id) 3 = true := by
        unfold tumbref2_follows
        have : stf (u.take j) s.Id = 1 ∨ stf (u.take j) s.Id = 2 := by omega
        rcases this with h | h <;> rw [h] <;> rfl
      rw [this]
      simp
  have e4 : u = u.take (j + 1) ++ u.drop (j + 1) := (List.take_append_drop _ _).symm
  rw [e4, stf_app, s3]
  exact void_stays _ _
theorem upS_pair {l : List GStep} (ha : StAdj l) (t : Int) : (upS l t).Pairwise fun a b => a.At ≤ b.At := by
  refine List.Pairwise.sublist List.filter_sublist ?_
  have : ∀ (ys dn : List GStep), l = dn ++ ys → ys.Pairwise fun a b => a.At ≤ b.At := by
    intro ys
    induction ys with
    | nil => intro _ _; exact List.Pairwise.nil
    | cons y ys ih =>
      intro dn e
      exact List.pairwise_cons.2 ⟨adj_at ha dn y ys e, ih (dn ++ [y]) (by rw [e]; simp)⟩
  exact this l [] rfl
theorem val_mem {k : GKind} {u : List GStep} {b : GBest} (h : b ∈ valS k u) : ∃ s ∈ firsts u, b.Id = s.Id ∧ b.Since = s.At ∧ b.Time = s.Time ∧ stf u s.Id ≠ 3 := by
  unfold valS at h
  obtain ⟨s, h1, rfl⟩ := List.mem_map.1 h
  obtain ⟨h2, h3⟩ := List.mem_filter.1 h1
  simp only [Bool.and_eq_true, Bool.not_eq_true', decide_eq_false_iff_not] at h3
  exact ⟨s, h2, rfl, rfl, rfl, h3.2⟩
/-- Of a best in the history: it is not late, and only what was struck at once is void. -/
theorem hist_ok {k : GKind} {x : List GStep} (hg : ∀ s ∈ x, StG s) (ha : StAdj x) (t : Int) {b : GBest} (hb : b ∈ valS k (upS x t)) :
    b.Since ≤ t ∧ 1 ≤ b.Time ∧ (slices_ContainsFunc_Step_tumbkeep2_RecordsNeverSlower_c1 x b t = true → slices_ContainsFunc_Step_tumbkeep2_RecordsNeverSlower_c2 x b = true) := by
  obtain ⟨s, h1, h2, h3, h4, h5⟩ := val_mem hb
  obtain ⟨i, g1, g2, g3⟩ := firsts_at h1
  have hsu : s ∈ upS x t := List.mem_of_getElem? g1
  obtain ⟨hsx, hst⟩ := List.mem_filter.1 hsu
  have hst := of_decide_eq_true hst
  refine ⟨by omega, by have := (hg s hsx).2.2 g2; omega, ?_⟩
  have c1 : slices_ContainsFunc_Step_tumbkeep2_RecordsNeverSlower_c1 x b t = x.any fun z => tumbkeep2_RecordsNeverSlower_c1 z b t :=
    any_l (fun z => tumbkeep2_RecordsNeverSlower_c1 z b t) (slices_IndexFunc_Step_tumbkeep2_RecordsNeverSlower_c1_l1 b t (-1)) (fun _ => rfl) (fun _ _ _ => rfl) x
  have c2 : slices_ContainsFunc_Step_tumbkeep2_RecordsNeverSlower_c2 x b = x.any fun z => tumbkeep2_RecordsNeverSlower_c2 z b :=
    any_l (fun z => tumbkeep2_RecordsNeverSlower_c2 z b) (slices_IndexFunc_Step_tumbkeep2_RecordsNeverSlower_c2_l1 b (-1)) (fun _ => rfl) (fun _ _ _ => rfl) x
  rw [c1, c2]
  intro h
  obtain ⟨z, hz, hz2⟩ := List.any_eq_true.1 h
  unfold tumbkeep2_RecordsNeverSlower_c1 at hz2
  simp only [Bool.and_eq_true, decide_eq_true_eq] at hz2
  obtain ⟨⟨⟨z1, z2⟩, z3⟩, z4⟩ := hz2
  refine List.any_eq_true.2 ⟨z, hz, ?_⟩
  unfold tumbkeep2_RecordsNeverSlower_c2
  simp only [Bool.and_eq_true, decide_eq_true_eq]
  refine ⟨⟨z1, z2⟩, ?_⟩
  by_cases he : z.At = b.Since
  · exact he
  · exfalso
    have hzu : z ∈ upS x t := List.mem_filter.2 ⟨hz, by simpa using z4⟩
    obtain ⟨j, hj⟩ := List.getElem?_of_mem hzu
    have hp := upS_pair ha t
    rw [List.pairwise_iff_getElem] at hp
    obtain ⟨i1, i2⟩ := List.getElem?_eq_some_iff.1 g1
    obtain ⟨j1, j2⟩ := List.getElem?_eq_some_iff.1 hj
    have hij : i < j := by
      rcases Nat.lt_trichotomy i j with h | h | h
      · exact h
      · exfalso
        subst h
        rw [i2] at j2
        rw [← j2] at z1
        omega
      · exfalso
        have := hp j i j1 i1 h
        rw [i2, j2] at this
        omega
    exact h5 (later_void (fun s hs => (hg s (List.mem_filter.1 hs).1).2.1) g1 hj hij g2 g3 z1 (by rw [z2, h2]))
theorem hist_mem {v : List GBest} {b : GBest} (h : b ∈ histS v) : b ∈ v := by
  obtain ⟨k, h1, _⟩ := sel_mem _ _ _ h
  exact List.mem_of_getElem? h1
theorem slower_2 (x : List GStep) (ax at' : Int) (t : Int) (h : List GBest) (hh : h.length ≤ 100000) (eh : Int) (j : Option Bool) (hd : ∀ a x y b, h = a ++ x :: y :: b → y.Time ≤ x.Time)
    (hb : ∀ b ∈ h, b.Since ≤ t ∧ 1 ≤ b.Time ∧ (slices_ContainsFunc_Step_tumbkeep2_RecordsNeverSlower_c1 x b t = true → slices_ContainsFunc_Step_tumbkeep2_RecordsNeverSlower_c2 x b = true)) : ∀ (ys dn : List GBest), h = dn ++ ys →
    tumbkeep2_RecordsNeverSlower_l2 (t, at') (x, ax) (h, eh) j ys dn.length = j
  | [], _, _ => rfl
  | y :: ys, dn, e => by
    have hlen : h.length = dn.length + (ys.length + 1) := by rw [e]; simp
    have ih := slower_2 x ax at' t h hh eh j hd hb ys (dn ++ [y]) (by rw [e]; simp)
    rw [List.length_append, List.length_singleton] at ih
    obtain ⟨b1, _, b3⟩ := hb y (by rw [e]; simp)
    rw [tumbkeep2_RecordsNeverSlower_l2]
    simp only [joinR]
    rw [ih]
    have hvoid : (slices_ContainsFunc_Step_tumbkeep2_RecordsNeverSlower_c1 x y t && !slices_ContainsFunc_Step_tumbkeep2_RecordsNeverSlower_c2 x y) = false := by
      cases hc : slices_ContainsFunc_Step_tumbkeep2_RecordsNeverSlower_c1 x y t with
      | false => rfl
      | true => rw [b3 hc]; rfl
    rw [hvoid, decide_eq_false (show ¬ t < y.Since by omega)]
    rcases List.eq_nil_or_concat dn with h0 | ⟨d, p, h0⟩
    · rw [h0]; simp
    · rw [List.concat_eq_append] at h0
      have hd2 : dn.length = d.length + 1 := by rw [h0]; simp
      have hn : nth h (W ((dn.length : Int) - 1)) = p := by
        rw [W_in (by omega) (by omega), e, h0]
        have : d ++ [p] ++ y :: ys = d ++ p :: (y :: ys) := by simp
        rw [this]
        exact nth_mid _ _ _ (by simp)
      have hle := hd d p y ys (by rw [e, h0]; simp)
      rw [hn, chkT (inB_iff.2 (by rw [W_in (by omega) (by omega)]; omega)), decide_eq_false (show ¬ p.Time < y.Time by omega), decide_eq_true (show 0 < (dn.length : Int) by omega)]
      simp
theorem NeededK_is (k : List GKind) (l : List GStep) (kind : ByteArray) (t : Int) {e f : Int} (he : record_CheckKinds k = some e) (hf : record_CheckSteps l = some f) :
    ∃ n b, record_Needed k l kind t = some (n, b, twoF e f k kind t) ∧
      (twoF e f k kind t = 0 → ((recS (valS (nth k (tumbref2_KindAt k kind)) (upS l t)) = [] ∧ n = 0 ∧ b = false) ∨ (recS (valS (nth k (tumbref2_KindAt k kind)) (upS l t)) ≠ [] ∧
          b = !decide ((nth (recS (valS (nth k (tumbref2_KindAt k kind)) (upS l t))) 0).Time = 1) ∧ (b = true → n = W ((nth (recS (valS (nth k (tumbref2_KindAt k kind)) (upS l t))) 0).Time - 1))))) := by
  unfold record_Needed
  rcases ask_is k l kind t he hf with ⟨h1, h2⟩ | ⟨h1, h2, h3, sw, h4, h5⟩
  · rw [h2]
    exact ⟨0, false, by simp [h1], fun h => absurd h h1⟩
  · rw [h4, h1]
    have hu := upS_len l t
    simp only [Option.bind_some, decide_true, Bool.not_true, Bool.false_eq_true, if_false, joinR]
    rw [record_is _ (by omega) h5]
    simp only [Option.bind_some]
    generalize recS (valS (nth k (tumbref2_KindAt k kind)) (upS l t)) = rr
    by_cases h0 : (rr.length : Int) = 0
    · have : rr = [] := List.eq_nil_of_length_eq_zero (by omega)
      subst this
      exact ⟨0, false, by simp, fun _ => .inl ⟨rfl, rfl, rfl⟩⟩
    · have hin : inB 0 rr.length = true := inB_iff.2 (by omega)
      have hne : rr ≠ [] := by rintro rfl; exact h0 rfl
      by_cases h7 : (nth rr 0).Time = 1
      · exact ⟨0, false, by simp [hne, chkT hin, h7], fun _ => .inr ⟨hne, by simp [h7], fun h => by cases h⟩⟩
      · exact ⟨W ((nth rr 0).Time - 1), true, by simp [hne, chkT hin, h7], fun _ => .inr ⟨hne, by simp [h7], fun _ => rfl⟩⟩
theorem slower_1 (k : List GKind) (ak : Int) (x : List GStep) (ax t at' : Int) (hk : record_CheckKinds k = some 0) (hx : record_CheckSteps x = some 0) (hnd : (k.map (·.Key)).Nodup) (ht : tumbref2_Moment t = true) (j : Option Bool) : ∀ (ys : List GKind) (i : Nat), (∀ y ∈ ys, y ∈ k) →
    tumbkeep2_RecordsNeverSlower_l1 (k, ak) (x, ax) (t, at') j ys i = j
  | [], _, _ => rfl
  | y :: ys, i, hy => by
    have ih := slower_1 k ak x ax t at' hk hx hnd ht j ys (i + 1) (fun z hz => hy z (List.mem_cons_of_mem _ hz))
    obtain ⟨q1, q2, q3⟩ := kindAt_t hnd (hy y (by simp))
    obtain ⟨H, h1, _, h3⟩ := History_is k x y.Key t hk hx
    obtain ⟨R, r1, _, r3⟩ := Record_is k x y.Key t hk hx
    obtain ⟨n, ok, n1, n3⟩ := NeededK_is k x y.Key t hk hx
    have h0 : twoF 0 0 k y.Key t = 0 := by
      unfold twoF tumblaw2_kindFault tumblaw2_momentFault tumblaw2_when
      rw [ht, decide_eq_false q3]
      decide +kernel
    obtain ⟨_, hxl, hH⟩ := h3 h0
    obtain ⟨_, _, hR⟩ := r3 h0
    have hN := n3 h0
    rw [q2] at hH hR hN
    obtain ⟨f', f1, _, f3⟩ := steps_both x
    have hf : f' = 0 := by rw [hx] at f1; exact (Option.some.inj f1).symm
    obtain ⟨_, hg, ha⟩ := f3 hf
    have hok := fun b hb => hist_ok (k := y) hg ha t (b := b) hb
    have hvl := valS_len y (upS x t)
    have hul := upS_len x t
    rw [tumbkeep2_RecordsNeverSlower_l1]
    simp only [h1, r1, n1, h0, Option.bind_some, kerrs_cons, kerrs_nil, joinR]
    generalize valS y (upS x t) = v at hH hR hN hok hvl
    have hHl : H.length ≤ 100000 := by rw [hH]; have := histS_len v; omega
    have hall : ∀ J : Option Bool, tumbkeep2_RecordsNeverSlower_l2 (t, at') (x, ax) (H, 0) J H 0 = J := fun J =>
      slower_2 x ax at' t H hHl 0 J (by rw [hH]; exact hist_down _ v rfl) (fun b hb => hok b (hist_mem (hH ▸ hb))) H [] rfl
    rw [hall, ih]
    rcases hist_last _ v rfl with ⟨v0, v1⟩ | ⟨q, c, v1, v2, v3⟩
    · have hH0 : H = [] := by rw [hH, v1]
      have hR0 : R = [] := by rw [hR, v0]; rfl
      rw [hH0, hR0]
      simp
    · have hH1 : H = q ++ [c] := by rw [hH, v1]
      have hrm := rec_min v c v2 v3
      have hcR : c ∈ R := by rw [hR, hrm]; exact List.mem_filter.2 ⟨v2, by simp⟩
      obtain ⟨z, zs, hz⟩ := List.exists_cons_of_ne_nil (List.ne_nil_of_mem hcR)
      have hzt : z.Time = c.Time := by
        have : z ∈ R := by rw [hz]; simp
        rw [hR, hrm] at this
        exact of_decide_eq_true (List.mem_filter.1 this).2
      have hHlen : H.length = q.length + 1 := by rw [hH1]; simp
      have hRlen : R.length = zs.length + 1 := by rw [hz]; rfl
      have hn0 : nth R 0 = z := by rw [hz]; rfl
      have hw : W ((H.length : Int) - 1) = (q.length : Int) := by rw [W_in (by omega) (by omega)]; omega
      have hn1 : nth H (q.length : Int) = c := by rw [hH1]; exact nth_mid q c [] rfl
      have hc1 : 1 ≤ c.Time := (hok c v2).2.1
      rcases hN with ⟨hN, _⟩ | ⟨_, hN2, hN3⟩
      · rw [← hR, hz] at hN; cases hN
      · rw [← hR, hn0] at hN2 hN3
        have hokv : ok = decide (1 < z.Time) := by
          rw [hN2, Bool.eq_iff_iff]
          simp only [Bool.not_eq_true', decide_eq_false_iff_not, decide_eq_true_eq]
          omega
        have hpH : decide ((H.length : Int) = 0) = false := decide_eq_false (by omega)
        have hpR : decide ((R.length : Int) = 0) = false := decide_eq_false (by omega)
        have hpos : decide (0 < (H.length : Int)) = true := decide_eq_true (by omega)
        rw [hpH, hpR, hpos, hw, hn0, hn1, hzt, chkT (inB_iff.2 (by omega)), chkT (inB_iff.2 (by omega))]
        have hR0 : inB 0 R.length = true := inB_iff.2 (by omega)
        rw [hzt] at hokv hN3
        rw [← hokv]
        cases ok with
        | false => simp [chkT hR0]
        | true => simp [chkT hR0, hN3 rfl]
theorem plain_RecordsNeverSlower (l : List Int) (hl : l.length ≤ 9223372036854775807) : tumbkeep2_RecordsNeverSlower l = some true := by
  have hL : LongL l := by unfold LongL; omega
  obtain ⟨k, a1, e1, p1, q1, k1, k2, k3⟩ := rightK_dr hL (a := 0) (by omega) (by omega)
  obtain ⟨n, a2, e2, p2, q2, n1, n2⟩ := range_dr hL (a := a1) (by omega) (by omega) 0 16 (by omega) (by omega) (by omega)
  obtain ⟨x, a3, e3, p3, q3, x1, x2⟩ := rightSteps_dr hL n (by omega) (by omega) (a := a2) (by omega) (by omega)
  obtain ⟨t, a4, e4, p4, q4, t1, t2⟩ := range_dr hL (a := a3) (by omega) (by omega) 0 60 (by omega) (by omega) (by omega)
  unfold tumbkeep2_RecordsNeverSlower
  rw [e1]; simp only [Option.bind_some]
  rw [e2]; simp only [Option.bind_some]
  rw [e3]; simp only [Option.bind_some]
  rw [e4]; simp only [Option.bind_some]
  have ht : tumbref2_Moment t = true := by
    unfold tumbref2_Moment tumbref2_in
    simp only [Bool.and_eq_true, decide_eq_true_eq]
    omega
  rw [ready_ok, joinR]
  exact slower_1 k a1 x a3 t a4 k1 x2 k3 ht (some true) k 0 (fun _ h => h)
end Go.Proofs.YtikobclhcfiadaaGreatDoor
