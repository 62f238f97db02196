/- The program's live timetable is the reference's. No program stands here but its twins. -/
import Derived.Test.YthckagkkjdabeaaDoorPHeld
namespace Go.Proofs.YthckagkkjdabeaaDoor
open Go
theorem W_per (n : Int) : ∃ k : Int, W n = n + 18446744073709551616 * k := by
  rw [W_eq]
  split
  · exact ⟨-(n / 18446744073709551616) - 1, by omega⟩
  · exact ⟨-(n / 18446744073709551616), by omega⟩
theorem W_shift (n k : Int) : W (n + 18446744073709551616 * k) = W n := by
  rw [W_eq, W_eq]
  have : (n + 18446744073709551616 * k) % 18446744073709551616 = n % 18446744073709551616 := by omega
  rw [this]
theorem W_addr (x y : Int) : W (x + W y) = W (x + y) := by
  obtain ⟨k, h⟩ := W_per y
  rw [h, show x + (y + 18446744073709551616 * k) = x + y + 18446744073709551616 * k by omega, W_shift]
theorem W_subl (x y : Int) : W (W x - y) = W (x - y) := by
  obtain ⟨k, h⟩ := W_per x
  rw [h, show x + 18446744073709551616 * k - y = x - y + 18446744073709551616 * k by omega, W_shift]
/-- When a heat began, by the last word on it. -/
def lastAt (item : ByteArray) (h : Int) : List GHeld → Option Int
  | [] => none
  | p :: l => match lastAt item h l with
    | some a => some a
    | none => if p.Item = item ∧ p.Heat = h then some p.At else none
theorem lastAt_mem (item : ByteArray) (h : Int) : ∀ (l : List GHeld) (a : Int), lastAt item h l = some a → ∃ p ∈ l, p.At = a
  | [], a, e => by cases e
  | p :: l, a, e => by
    rw [lastAt] at e
    cases hq : lastAt item h l with
    | some b => rw [hq] at e; cases e; obtain ⟨q, h1, h2⟩ := lastAt_mem item h l a hq; exact ⟨q, List.mem_cons_of_mem _ h1, h2⟩
    | none =>
      rw [hq] at e
      simp only at e
      split at e
      · cases e; exact ⟨p, List.mem_cons_self, rfl⟩
      · cases e
theorem maps_ok (j : List (Gsession_heat × Bool) → List (Gsession_heat × Int) → Option (List GSlot × List GSlot)) : ∀ (l : List GHeld) (i : Nat) (m1 : List (Gsession_heat × Bool)) (m2 : List (Gsession_heat × Int)),
    ∃ n1 n2, session_live_l1 j l i m1 m2 = j n1 n2 ∧ (∀ item h, mgetD n1 ⟨item, h⟩ false = ((lastAt item h l).isSome || mgetD m1 ⟨item, h⟩ false)) ∧ (∀ item h, mgetD n2 ⟨item, h⟩ 0 = (lastAt item h l).getD (mgetD m2 ⟨item, h⟩ 0))
  | [], i, m1, m2 => ⟨m1, m2, rfl, fun _ _ => by simp [lastAt], fun _ _ => by simp [lastAt]⟩
  | p :: l, i, m1, m2 => by
    obtain ⟨n1, n2, e, h1, h2⟩ := maps_ok j l (i + 1) (mput m1 ⟨p.Item, p.Heat⟩ true) (mput m2 ⟨p.Item, p.Heat⟩ p.At)
    refine ⟨n1, n2, by rw [session_live_l1]; exact e, fun item h => ?_, fun item h => ?_⟩
    · rw [h1, mgetD_put, lastAt]
      cases lastAt item h l with
      | some a => simp
      | none =>
        by_cases hc : p.Item = item ∧ p.Heat = h
        · simp [hc]
        · rw [if_neg hc, if_neg (fun g => hc (by simp only [Gsession_heat.mk.injEq] at g; exact ⟨g.1.symm, g.2.symm⟩))]
    · rw [h2, mgetD_put, lastAt]
      cases lastAt item h l with
      | some a => simp
      | none =>
        by_cases hc : p.Item = item ∧ p.Heat = h
        · simp [hc]
        · rw [if_neg hc, if_neg (fun g => hc (by simp only [Gsession_heat.mk.injEq] at g; exact ⟨g.1.symm, g.2.symm⟩))]
theorem held_fold (y : GSlot) (i : Nat) (x1 : List GSlot) (j : Int → Option (List GSlot)) (hi : 0 < (i : Int) → inB (W ((i : Int) - 1)) x1.length = true) : ∀ (l : List GHeld) (k : Nat) (x : Int),
    tumbref2_LiveOf_l2 y i x1 j l k x = j (match lastAt y.Item y.Heat l with | some a => if 0 < (i : Int) then imax a ((nth x1 (W ((i : Int) - 1))).Time.To) else a | none => x)
  | [], k, x => rfl
  | p :: l, k, x => by
    rw [tumbref2_LiveOf_l2, lastAt]
    simp only [join_eq]
    by_cases hc : p.Item = y.Item ∧ p.Heat = y.Heat
    · rw [if_pos (by simpa using hc)]
      by_cases h0 : 0 < (i : Int)
      · rw [if_pos (decide_eq_true h0), chk_pos (hi h0), held_fold y i x1 j hi l]
        cases lastAt y.Item y.Heat l with
        | some a => rfl
        | none => simp only [hc, and_self, if_true, h0]
      · rw [if_neg (by simpa using h0), held_fold y i x1 j hi l]
        cases lastAt y.Item y.Heat l with
        | some a => rfl
        | none => simp only [hc, and_self, if_true, h0, if_false]
    · rw [if_neg (by simpa using hc), held_fold y i x1 j hi l]
      cases lastAt y.Item y.Heat l with
      | some a => rfl
      | none => simp [hc]
/-- Heats one behind the other, with breaks that are not long. -/
def Ch : Int → List GSlot → Prop
  | _, [] => True
  | p, s :: l => p ≤ s.Time.From ∧ s.Time.From ≤ p + 3600000 ∧ s.Time.From ≤ s.Time.To ∧ s.Time.To ≤ s.Time.From + 3600000 ∧ Ch s.Time.To l
theorem ch_hs (y : GItem) (hy : Good y) (rest : List GSlot) : ∀ (k : Nat) (h t p : Int), p ≤ t → t ≤ p + 3600000 → Ch (endH y (k + 1) t) rest → Ch p (hs y (k + 1) h t ++ rest)
  | 0, h, t, p, h1, h2, h3 => by
    unfold Good at hy
    simp only [hs, List.cons_append, List.nil_append, Ch]
    exact ⟨h1, h2, by omega, by omega, h3⟩
  | k + 1, h, t, p, h1, h2, h3 => by
    have hy' := hy
    unfold Good at hy
    rw [hs, List.cons_append, Ch]
    exact ⟨h1, h2, by simp only; omega, by simp only; omega, ch_hs y hy' rest k (h + 1) (t + y.Long + y.Gap) (t + y.Long) (by omega) (by omega) h3⟩
theorem ch_tt : ∀ (l : List GItem) (t p : Int), (∀ x ∈ l, Good x) → p ≤ t → t ≤ p + 3600000 → Ch p (tt l t)
  | [], _, _, _, _, _ => trivial
  | y :: ys, t, p, hg, h1, h2 => by
    have hy := hg y List.mem_cons_self
    have hy' := hy
    unfold Good at hy'
    rw [tt]
    obtain ⟨k, hk⟩ : ∃ k, y.Heats.toNat = k + 1 := ⟨y.Heats.toNat - 1, by omega⟩
    rw [hk]
    exact ch_hs y hy _ k 1 t p h1 h2 (ch_tt ys _ _ (fun x hx => hg x (List.mem_cons_of_mem _ hx)) (by omega) (by omega))
/-- The live timetable goes on: the same list by both, its ends in order. -/
theorem live_loop (l : List GHeld) (hAt : ∀ p ∈ l, 0 ≤ p.At ∧ p.At ≤ 345686400000) (n1 : List (Gsession_heat × Bool)) (n2 : List (Gsession_heat × Int)) (hn1 : ∀ item h, mgetD n1 ⟨item, h⟩ false = (lastAt item h l).isSome) (hn2 : ∀ item h, mgetD n2 ⟨item, h⟩ 0 = (lastAt item h l).getD 0)
    (R : List GSlot) (hR : R.length ≤ 6000) (t : Int) (ht0 : 0 ≤ t) (ht : t ≤ 345686400000) : ∀ (ys dn x3 : List GSlot), R = dn ++ ys → x3.length = dn.length →
    ((dn = [] ∧ x3 = [] ∧ Ch t ys) ∨ ∃ (d : List GSlot) (P : GSlot) (x : List GSlot) (Q : GSlot), dn = d ++ [P] ∧ x3 = x ++ [Q] ∧ Ch P.Time.To ys ∧ 0 ≤ P.Time.To ∧ P.Time.To ≤ 345686400000 + dn.length * 7200000 ∧ 0 ≤ Q.Time.To ∧ Q.Time.To ≤ 1000000000000 + dn.length * 10000000 ∧ ∀ s ∈ x3, s.Time.To ≤ Q.Time.To) →
    ∃ z, session_live_l2 n1 n2 R (fun x => some (x, R)) ys dn.length x3 = some (z, R) ∧ tumbref2_LiveOf_l1 l R (fun x => some x) ys dn.length (x3 ++ ys) = some z ∧ z.length = R.length ∧ ∀ s ∈ z, s.Time.To ≤ lastTo z t := by
  intro ys
  induction ys with
  | nil =>
    intro dn x3 h1 h2 h3
    refine ⟨x3, rfl, by simp [tumbref2_LiveOf_l1], by rw [h2, h1]; simp, fun s hs => ?_⟩
    rcases h3 with ⟨_, rfl, _⟩ | ⟨d, P, x, Q, _, rfl, _, _, _, _, _, h4⟩
    · cases hs
    · unfold lastTo; simp only [List.getLast?_concat]; exact h4 s hs
  | cons y ys ih =>
    intro dn x3 h1 h2 h3
    rw [session_live_l2, tumbref2_LiveOf_l1]
    simp only [join_eq]
    have hRl : dn.length + (ys.length + 1) ≤ 6000 := by rw [h1] at hR; simpa using hR
    have hni : nth (x3 ++ y :: ys) (dn.length : Int) = y := by unfold nth; rw [← h2]; simp
    have hset : ∀ s, (x3 ++ y :: ys).set ((dn.length : Int).toNat) s = (x3 ++ [s]) ++ ys := fun s => by
      rw [Int.toNat_natCast, ← h2]; simp
    have hchk : inB (dn.length : Int) (x3 ++ y :: ys).length = true := by rw [inB_iff]; simp; omega
    -- the beginning of this heat, by both
    have main : ∃ v : Int, (∀ k : Int → Option (List GSlot × List GSlot), (if decide (0 < (dn.length : Int)) = true then
          Chk (inB (W ((dn.length : Int) - 1)) x3.length) (Chk (inB (W ((dn.length : Int) - 1)) R.length)
            (if mgetD n1 (Gsession_heat.mk y.Item y.Heat) false = true then if decide (0 < (dn.length : Int)) = true then Chk (inB (W ((dn.length : Int) - 1)) x3.length) (k (imax (mgetD n2 (Gsession_heat.mk y.Item y.Heat) 0) ((nth x3 (W ((dn.length : Int) - 1))).Time.To))) else k (mgetD n2 (Gsession_heat.mk y.Item y.Heat) 0)
              else k (imax y.Time.From (W (W ((nth x3 (W ((dn.length : Int) - 1))).Time.To + y.Time.From) - (nth R (W ((dn.length : Int) - 1))).Time.To)))))
        else if mgetD n1 (Gsession_heat.mk y.Item y.Heat) false = true then if decide (0 < (dn.length : Int)) = true then Chk (inB (W ((dn.length : Int) - 1)) x3.length) (k (imax (mgetD n2 (Gsession_heat.mk y.Item y.Heat) 0) ((nth x3 (W ((dn.length : Int) - 1))).Time.To))) else k (mgetD n2 (Gsession_heat.mk y.Item y.Heat) 0)
              else k y.Time.From) = k v) ∧
        (∀ k : Int → Option (List GSlot), (if decide (0 < (dn.length : Int)) = true then
          Chk (inB (W ((dn.length : Int) - 1)) (x3 ++ y :: ys).length) (Chk (inB (W ((dn.length : Int) - 1)) R.length)
            (tumbref2_LiveOf_l2 y dn.length (x3 ++ y :: ys) k l 0 (imax y.Time.From (W (W ((nth (x3 ++ y :: ys) (W ((dn.length : Int) - 1))).Time.To + y.Time.From) - (nth R (W ((dn.length : Int) - 1))).Time.To)))))
        else tumbref2_LiveOf_l2 y dn.length (x3 ++ y :: ys) k l 0 y.Time.From) = k v) ∧
        0 ≤ v ∧ v ≤ 1000000000000 + dn.length * 10000000 + 3600000 ∧ (∀ s ∈ x3, s.Time.To ≤ v) ∧ y.Time.From ≤ y.Time.To ∧ y.Time.To ≤ y.Time.From + 3600000 ∧ Ch y.Time.To ys ∧ 0 ≤ y.Time.To ∧ y.Time.To ≤ 345686400000 + (dn.length + 1) * 7200000 := by
      rcases h3 with ⟨rfl, rfl, hc⟩ | ⟨d, P, x, Q, rfl, rfl, hc, p0, p1, q0, q1, hm⟩
      · rw [Ch] at hc
        have hfold := held_fold y 0 ([] ++ y :: ys)
        simp only [List.length_nil, Int.natCast_zero, Int.lt_irrefl, decide_false, Bool.false_eq_true, if_false, hn1, hn2] at hfold ⊢
        cases ha : lastAt y.Item y.Heat l with
        | none =>
          refine ⟨y.Time.From, fun k => by simp, fun k => by rw [hfold k (fun h => by cases h), ha], by omega, by omega, (fun s hs => by cases hs), by omega, by omega, hc.2.2.2.2, by omega, by omega⟩
        | some a =>
          obtain ⟨p, hp, rfl⟩ := lastAt_mem _ _ _ _ ha
          have := hAt p hp
          refine ⟨p.At, fun k => by simp, fun k => by rw [hfold k (fun h => by cases h), ha], by omega, by omega, (fun s hs => by cases hs), by omega, by omega, hc.2.2.2.2, by omega, by omega⟩
      · rw [Ch] at hc
        have hl1 : ((d ++ [P]).length : Int) = (d.length : Int) + 1 := by simp
        have hpos : decide (0 < ((d ++ [P]).length : Int)) = true := by rw [hl1]; simp
        have hpos' : 0 < ((d ++ [P]).length : Int) := by omega
        have hxd : x.length = d.length := by simpa using h2
        have hw : W (((d ++ [P]).length : Int) - 1) = (d.length : Int) := by rw [hl1, W_in (by simp at hRl; omega) (by simp at hRl; omega)]; omega
        have c1 : inB (d.length : Int) (x ++ [Q]).length = true := by rw [inB_iff]; simp; omega
        have c2 : inB (d.length : Int) R.length = true := by rw [inB_iff, h1]; simp; omega
        have c3 : inB (d.length : Int) (x ++ [Q] ++ y :: ys).length = true := by rw [inB_iff]; simp; omega
        have e1 : nth (x ++ [Q]) (d.length : Int) = Q := by unfold nth; rw [← hxd]; simp
        have e2 : nth R (d.length : Int) = P := by unfold nth; rw [h1]; simp
        have e3 : nth (x ++ [Q] ++ y :: ys) (d.length : Int) = Q := by unfold nth; rw [← hxd]; simp
        have hfold := held_fold y (d ++ [P]).length (x ++ [Q] ++ y :: ys)
        rw [hl1] at p1 q1
        have hb := hRl
        simp at hb
        have ev : W (W (Q.Time.To + y.Time.From) - P.Time.To) = Q.Time.To + y.Time.From - P.Time.To := by rw [W_subl]; exact W_in (by omega) (by omega)
        simp only [hw, e3] at hfold
        simp only [hw, hpos, if_true, chk_pos c1, chk_pos c2, chk_pos c3, e1, e2, e3, hn1, hn2, ev]
        rw [hl1]
        cases ha : lastAt y.Item y.Heat l with
        | none =>
          have hmx : imax y.Time.From (Q.Time.To + y.Time.From - P.Time.To) = max y.Time.From (Q.Time.To + y.Time.From - P.Time.To) := by unfold imax; split <;> omega
          refine ⟨imax y.Time.From (Q.Time.To + y.Time.From - P.Time.To), fun k => by simp, fun k => by rw [hfold k (fun _ => c3), ha], by omega, by omega, (fun s hs => by have := hm s hs; omega), by omega, by omega, hc.2.2.2.2, by omega, by omega⟩
        | some a =>
          obtain ⟨p, hp, rfl⟩ := lastAt_mem _ _ _ _ ha
          have := hAt p hp
          have hmx : imax p.At Q.Time.To = max p.At Q.Time.To := by unfold imax; split <;> omega
          refine ⟨imax p.At Q.Time.To, fun k => by simp, fun k => by rw [hfold k (fun _ => c3), ha]; simp only [hpos', if_true], by omega, by omega, (fun s hs => by have := hm s hs; omega), by omega, by omega, hc.2.2.2.2, by omega, by omega⟩
    obtain ⟨v, m1, m2, v0, v1, v2, y1, y2, y3, y4, y5⟩ := main
    have hto : W (v + W (y.Time.To - y.Time.From)) = v + (y.Time.To - y.Time.From) := by rw [W_addr]; exact W_in (by omega) (by omega)
    have hto2 : W (W (v + y.Time.To) - y.Time.From) = v + (y.Time.To - y.Time.From) := by rw [W_subl, W_in (by omega) (by omega)]; omega
    obtain ⟨z, z1, z2, z3⟩ := ih (dn ++ [y]) (x3 ++ [GSlot.mk y.Item y.Heat (GWindow.mk v (v + (y.Time.To - y.Time.From)))]) (by rw [h1]; simp) (by simp [h2])
      (.inr ⟨dn, y, x3, _, rfl, rfl, y3, y4, by simp; omega, by simp only; omega, by simp; omega, fun s hs => by
        rcases List.mem_append.1 hs with h | h
        · have := v2 s h; simp only; omega
        · rw [List.mem_singleton] at h; subst h; exact Int.le_refl _⟩)
    rw [List.length_append, List.length_singleton] at z1 z2
    refine ⟨z, ?_, ?_, z3⟩
    · refine (m1 (fun x5 => Chk (room x3.length) (session_live_l2 n1 n2 R (fun x => some (x, R)) ys (dn.length + 1) (x3 ++ [(GSlot.mk y.Item y.Heat (GWindow.mk x5 (W (x5 + (W (y.Time.To - y.Time.From))))))])))).trans ?_
      rw [chk_pos (by unfold room; simp; omega), hto]
      exact z1
    · refine (m2 (fun x3_ => Chk (inB (dn.length : Int) (x3 ++ y :: ys).length) (tumbref2_LiveOf_l1 l R (fun x => some x) ys (dn.length + 1) ((x3 ++ y :: ys).set ((dn.length : Int).toNat) (GSlot.mk ((nth (x3 ++ y :: ys) (dn.length : Int)).Item) ((nth (x3 ++ y :: ys) (dn.length : Int)).Heat) (GWindow.mk x3_ (W ((W (x3_ + y.Time.To)) - y.Time.From)))))) )).trans ?_
      rw [chk_pos hchk, hset, hni, hto2]
      exact z2
end Go.Proofs.YthckagkkjdabeaaDoor
