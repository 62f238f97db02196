/- The plain law of HeatsDoNotOverlap. No program stands here but its twins. -/
import Derived.Test.YtefddponhjhdgaaDoorPLive
import Derived.Test.YtefddponhjhdgaaDoorPStr
import Derived.Test.YtefddponhjhdgaaDoorPReady
namespace Go.Proofs.YtefddponhjhdgaaDoor
open Go
/-! ### Items -/
def fiveI : List ByteArray := [k_ic, k_ia, k_id, k_ib, k_ie]
theorem five_i {s : ByteArray} (h : s ∈ fiveI) : words_IsKey s = some true := by
  simp only [fiveI, List.mem_cons, List.not_mem_nil, or_false] at h
  rcases h with rfl | rfl | rfl | rfl | rfl <;> decide +kernel
def ItOk (x : GItem) : Prop := Good x ∧ x.Key ∈ fiveI
theorem items_chk : ∀ (ys : List GItem) (i : Nat) (m : List (ByteArray × Bool)), (∀ x ∈ ys, ItOk x ∧ mgetD m x.Key false = false) → ys.Pairwise (fun a b => a.Key ≠ b.Key) → session_CheckItems_l1 (fun _ => some 0) ys i m = some 0
  | [], _, _, _, _ => rfl
  | y :: ys, i, m, h, hp => by
    rw [session_CheckItems_l1]
    obtain ⟨⟨hg, hk⟩, hm⟩ := h y List.mem_cons_self
    rw [List.pairwise_cons] at hp
    rw [five_i hk]
    have hr : ((((!(words_Within y.Heats 1 60)) || (!(words_Within y.Long 1 3600000))) || (!(words_Within y.Gap 0 3600000))) || (!(words_Within y.Break 0 3600000))) = false := by
      unfold Good at hg
      unfold words_Within
      simp [hg]
    simp only [Option.bind_some, Bool.not_true, Bool.false_eq_true, if_false, hm, hr]
    refine items_chk ys (i + 1) _ (fun x hx => ⟨(h x (List.mem_cons_of_mem _ hx)).1, ?_⟩) hp.2
    rw [mgetD_put, if_neg (fun e => hp.1 x hx e.symm)]
    exact (h x (List.mem_cons_of_mem _ hx)).2
section
variable {L : List Int} (hL : LongL L)
include hL
theorem right_items_l : ∀ (ys : List ByteArray) (i : Nat) (x1 : List GItem) (a : Int), 0 ≤ a → a + 5 * ys.length ≤ 1000000000000 → x1.length + ys.length ≤ 1000 → (∀ y ∈ ys, y ∈ fiveI) → ys.Pairwise (fun a b => a ≠ b) → (∀ x ∈ x1, ItOk x ∧ ∀ y ∈ ys, x.Key ≠ y) → x1.Pairwise (fun a b => a.Key ≠ b.Key) →
    ∃ x b, Stream_RightItems_l1 L (fun x a => some (x, a)) ys i x1 a = some (x, b) ∧ a ≤ b ∧ b ≤ a + 5 * ys.length ∧ x.length ≤ x1.length + ys.length ∧ (∀ z ∈ x, ItOk z) ∧ x.Pairwise (fun a b => a.Key ≠ b.Key)
  | [], i, x1, a, _, _, _, _, _, h5, h6 => ⟨x1, a, rfl, Int.le_refl _, by simp, by simp, fun z hz => (h5 z hz).1, h6⟩
  | y :: ys, i, x1, a, h0, h1, h2, h3, h4, h5, h6 => by
    rw [Stream_RightItems_l1]
    rw [List.pairwise_cons] at h4
    simp only [List.length_cons] at h1 h2 ⊢
    obtain ⟨f, b, e, g1, g2, _⟩ := flip_dr hL h0 (by omega) 6 (by omega)
    rw [e]; simp only [Option.bind_some, join_eq]
    cases f with
    | true =>
      rw [if_neg (by simp)]
      obtain ⟨x, c, e', g3, g4, g5, g6, g7⟩ := right_items_l ys (i + 1) x1 b (by omega) (by omega) (by omega) (fun z hz => h3 z (List.mem_cons_of_mem _ hz)) h4.2 (fun x hx => ⟨(h5 x hx).1, fun z hz => (h5 x hx).2 z (List.mem_cons_of_mem _ hz)⟩) h6
      exact ⟨x, c, e', by omega, by omega, by omega, g6, g7⟩
    | false =>
      rw [if_pos (by simp)]
      obtain ⟨s, b2, e2, g3, g4, q2⟩ := pick_dr hL (a := b) (by omega) (by omega) [1, 1, 2, 3] (by simp) (by simp)
      rw [e2]; simp only [Option.bind_some]
      obtain ⟨t, b3, e3, g5, g6, q3⟩ := pick_dr hL (a := b2) (by omega) (by omega) [50, 100] (by simp) (by simp)
      rw [e3]; simp only [Option.bind_some]
      obtain ⟨u, b4, e4, g7, g8, q4⟩ := pick_dr hL (a := b3) (by omega) (by omega) [0, 10, 60] (by simp) (by simp)
      rw [e4]; simp only [Option.bind_some]
      obtain ⟨v, b5, e5, g9, g10, q5⟩ := pick_dr hL (a := b4) (by omega) (by omega) [0, 20, 50, 200] (by simp) (by simp)
      rw [e5]; simp only [Option.bind_some]
      rw [chk_pos (by unfold room; simp; omega)]
      simp only [List.mem_cons, List.not_mem_nil, or_false] at q2 q3 q4 q5
      have hit : ItOk (GItem.mk y s t u v) := ⟨by unfold Good; simp only; omega, h3 y List.mem_cons_self⟩
      obtain ⟨x, c, e', g11, g12, g13, g14, g15⟩ := right_items_l ys (i + 1) (x1 ++ [GItem.mk y s t u v]) b5 (by omega) (by omega) (by simp; omega) (fun z hz => h3 z (List.mem_cons_of_mem _ hz)) h4.2
        (fun x hx => by
          rcases List.mem_append.1 hx with h | h
          · exact ⟨(h5 x h).1, fun z hz => (h5 x h).2 z (List.mem_cons_of_mem _ hz)⟩
          · rw [List.mem_singleton] at h; subst h; exact ⟨hit, fun z hz => h4.1 z hz⟩)
        (List.pairwise_append.2 ⟨h6, by simp, fun x hx z hz => by rw [List.mem_singleton] at hz; subst hz; exact (h5 x hx).2 y List.mem_cons_self⟩)
      simp only [List.length_append, List.length_singleton] at g13
      exact ⟨x, c, e', by omega, by omega, by omega, g14, g15⟩
theorem right_items_dr {a : Int} (h0 : 0 ≤ a) (h1 : a ≤ 100000000) : Dr a 25 (fun x => x.length ≤ 5 ∧ (∀ z ∈ x, ItOk z) ∧ x.Pairwise (fun a b => a.Key ≠ b.Key)) (Stream_RightItems L a 5) := by
  unfold Stream_RightItems
  rw [chk_pos (by decide +kernel), join_eq]
  have hc : cut ([k_ic, k_ia, k_id, k_ib, k_ie] : List ByteArray) 0 5 = fiveI := rfl
  rw [hc]
  obtain ⟨x, c, e', g7, g8, g9, g10, g11⟩ := right_items_l hL fiveI 0 [] a h0 (by simp [fiveI]; omega) (by simp [fiveI]) (fun _ h => h) (by decide +kernel) (fun _ h => by cases h) List.Pairwise.nil
  exact ⟨x, c, e', g7, by simp [fiveI] at g8; omega, by simpa [fiveI] using g9, g10, g11⟩
/-! ### Heats that were held -/
def AtOk (v : Int) : Prop := v ≤ 10000 ∨ 345686400000 < v
theorem odd_at {a : Int} (h0 : 0 ≤ a) (h1 : a ≤ 1000000000) : Dr a 2 AtOk (Stream_Odd L a 0 500) := by
  obtain ⟨b, e1⟩ := flip_ok L a 12 h0 (by omega) hL (by omega)
  unfold Stream_Odd
  rw [e1]
  simp only [Option.bind_some]
  cases b with
  | true =>
    obtain ⟨v, e, hv⟩ := pick_ok L (a + 1) [W (0 - 1), W (500 + 1), 0, 500, (-1099511627776), 1099511627776] (by omega) (by omega) hL (by simp) (by simp)
    rw [if_pos rfl, e]
    refine ⟨_, _, rfl, by show a ≤ a + 1 + 1; omega, by show a + 1 + 1 ≤ a + 2; omega, ?_⟩
    rw [W_in (by omega) (by omega), W_in (by omega) (by omega)] at hv
    simp only [List.mem_cons, List.not_mem_nil, or_false] at hv
    unfold AtOk; omega
  | false =>
    rw [if_neg (by simp)]
    obtain ⟨v, c, e, g1, g2, g3, g4⟩ := range_dr hL (a := a + 1) (by omega) (by omega) 0 500 (by omega) (by omega) (by omega)
    rw [e]
    exact ⟨_, _, rfl, by omega, by omega, .inl (by omega)⟩
theorem helds_h2 (y : GItem) (j : List GHeld → Int → Int → Option (List GHeld × Int)) : ∀ (k m : Nat) (x4 : List GHeld) (a x6 x7 : Int), 1 ≤ x7 → x7 ≤ 1000 → imin y.Heats 3 - x7 + 1 ≤ (k : Int) → (k : Int) ≤ 3 → k < m → 0 ≤ a → a + 2 * k ≤ 1000000000 → x4.length + k ≤ 100000 → 0 ≤ x6 → x6 + 200 * k ≤ 10000 → (∀ p ∈ x4, AtOk p.At) →
    ∃ x b z, Stream_Helds_l2 y L j m x4 a x6 x7 = j x b z ∧ a ≤ b ∧ b ≤ a + 2 * k ∧ x.length ≤ x4.length + k ∧ 0 ≤ z ∧ z ≤ x6 + 200 * k ∧ ∀ p ∈ x, AtOk p.At
  | k, 0, _, _, _, _, _, _, _, _, h, _, _, _, _, _, _ => absurd h (by omega)
  | k, m + 1, x4, a, x6, x7, h1, h1', h2, h3, h4, h5, h6, h7, h8, h9, h10 => by
    rw [Stream_Helds_l2]
    have him : imin y.Heats 3 = min y.Heats 3 := by unfold imin; split <;> omega
    by_cases hc : x7 ≤ imin y.Heats 3
    · rw [if_pos (decide_eq_true hc)]
      obtain ⟨q, b, e, g1, g2, hq⟩ := pick_dr hL h5 (by omega) [0, 50, 100, 200] (by simp) (by simp)
      simp only [List.mem_cons, List.not_mem_nil, or_false] at hq
      simp only [join_eq]
      rw [e]; simp only [Option.bind_some]
      obtain ⟨f, b2, e2, g3, g4, _⟩ := flip_dr hL (a := b) (by omega) (by omega) 3 (by omega)
      rw [e2]; simp only [Option.bind_some]
      rw [W_in (n := x7 + 1) (by omega) (by omega)]
      cases k with
      | zero => omega
      | succ k =>
        rw [W_in (n := x6 + q) (by omega) (by omega)]
        cases f with
        | true =>
          rw [if_pos rfl, chk_pos (by unfold room; simp; omega)]
          obtain ⟨x, c, z, r1, r2, r3, r4, r5, r6, r7⟩ := helds_h2 y j k m (x4 ++ [GHeld.mk y.Key x7 (x6 + q)]) b2 (x6 + q) (x7 + 1) (by omega) (by omega) (by omega) (by omega) (by omega) (by omega) (by omega) (by simp; omega) (by omega) (by omega) (fun p hp => by
            rcases List.mem_append.1 hp with h | h
            · exact h10 p h
            · rw [List.mem_singleton] at h; subst h; exact .inl (by show x6 + q ≤ 10000; omega))
          exact ⟨x, c, z, r1, by omega, by push_cast; omega, by simp at r4; omega, r5, by push_cast; omega, r7⟩
        | false =>
          rw [if_neg (by simp)]
          obtain ⟨x, c, z, r1, r2, r3, r4, r5, r6, r7⟩ := helds_h2 y j k m x4 b2 (x6 + q) (x7 + 1) (by omega) (by omega) (by omega) (by omega) (by omega) (by omega) (by omega) (by omega) (by omega) (by omega) h10
          exact ⟨x, c, z, r1, by omega, by push_cast; omega, by omega, r5, by push_cast; omega, r7⟩
    · rw [if_neg (by simpa using hc)]
      exact ⟨x4, a, x6, rfl, by omega, by omega, by omega, by omega, by omega, h10⟩
theorem helds_h1 (K : List GHeld → Int → Option (List GHeld × Int)) : ∀ (ys : List GItem) (i : Nat) (x1 : List GHeld) (a x3 : Int), 0 ≤ a → a + 6 * ys.length ≤ 100000000 → x1.length + 3 * ys.length ≤ 10000 → 0 ≤ x3 → x3 + 600 * ys.length ≤ 9000 → (∀ p ∈ x1, AtOk p.At) →
      ∃ x b, Stream_Helds_l1 L K ys i x1 a x3 = K x b ∧ a ≤ b ∧ b ≤ a + 6 * ys.length ∧ x.length ≤ x1.length + 3 * ys.length ∧ ∀ p ∈ x, AtOk p.At
  | [], i, x1, a, x3, _, _, _, _, _, h => ⟨x1, a, rfl, Int.le_refl _, by simp, by simp, h⟩
  | y :: ys, i, x1, a, x3, h0, h1, h2, h3, h4, h5 => by
    rw [Stream_Helds_l1]
    simp only [join_eq, List.length_cons] at h1 h2 h4 ⊢
    have him : imin y.Heats 3 = min y.Heats 3 := by unfold imin; split <;> omega
    obtain ⟨x, b, z, r1, r2, r3, r4, r5, r6, r7⟩ := helds_h2 hL y (fun x4 x5 x6 => Stream_Helds_l1 L K ys (i + 1) x4 x5 x6) (imin y.Heats 3).toNat ((imin y.Heats 3 - 1).toNat + 2) x1 a x3 1 (by omega) (by omega) (by omega) (by omega) (by omega) h0 (by omega) (by omega) h3 (by omega) h5
    rw [r1]
    obtain ⟨x', c, e, g1, g2, g3, g4⟩ := helds_h1 K ys (i + 1) x b z (by omega) (by omega) (by omega) r5 (by omega) r7
    exact ⟨x', c, e, by omega, by omega, by omega, g4⟩
theorem helds_at {a : Int} (h0 : 0 ≤ a) (h1 : a ≤ 1000000) (items : List GItem) (hi : items.length ≤ 5) : ∃ x b, Stream_Helds L a items = some (x, b) ∧ ∀ p ∈ x, AtOk p.At := by
  unfold Stream_Helds
  simp only [join_eq]
  obtain ⟨x, b, e, g1, g2, g3, g4⟩ := helds_h1 hL (fun x1 x2 => if (decide (0 < (x1.length : Int))) = true then Option.bind (Stream_Flip L x2 12) (fun r3 =>
      if r3.1 = true then Option.bind (Stream_Next L r3.2 (x1.length : Int)) (fun r4 => Chk (inB r4.1 x1.length) (Option.bind (Stream_Some L r4.2 [(nth x1 r4.1).Item, k_zz]) (fun r5 => Option.bind (Stream_Odd L r5.2 1 3) (fun r6 => Option.bind (Stream_Odd L r6.2 0 500) (fun r7 =>
        some ((((x1.set r4.1.toNat (GHeld.mk r5.1 ((nth x1 r4.1).Heat) ((nth x1 r4.1).At))).set r4.1.toNat (GHeld.mk r5.1 r6.1 ((nth x1 r4.1).At))).set r4.1.toNat (GHeld.mk r5.1 r6.1 r7.1)), r7.2)))))) else some (x1, r3.2)) else if false = true then Option.bind (Stream_Next L x2 (x1.length : Int)) (fun r4 => Chk (inB r4.1 x1.length) (Option.bind (Stream_Some L r4.2 [(nth x1 r4.1).Item, k_zz]) (fun r5 => Option.bind (Stream_Odd L r5.2 1 3) (fun r6 => Option.bind (Stream_Odd L r6.2 0 500) (fun r7 =>
        some ((((x1.set r4.1.toNat (GHeld.mk r5.1 ((nth x1 r4.1).Heat) ((nth x1 r4.1).At))).set r4.1.toNat (GHeld.mk r5.1 r6.1 ((nth x1 r4.1).At))).set r4.1.toNat (GHeld.mk r5.1 r6.1 r7.1)), r7.2)))))) else some (x1, x2)) items 0 [] a 0 h0 (by omega) (by simp; omega) (by omega) (by omega) (fun _ h => by cases h)
  rw [e]
  by_cases hp : 0 < (x.length : Int)
  · rw [if_pos (decide_eq_true hp)]
    simp only [List.length_nil] at g3
    obtain ⟨f, b1, e1, g5, g6, _⟩ := flip_dr hL (a := b) (by omega) (by omega) 12 (by omega)
    rw [e1]; simp only [Option.bind_some]
    cases f with
    | false => rw [if_neg (by simp)]; exact ⟨x, b1, rfl, g4⟩
    | true =>
      rw [if_pos rfl]
      obtain ⟨i, b2, e2, g7, g8, g9⟩ := next_dr hL (a := b1) (by omega) (by omega) (x.length : Int) (by omega)
      rw [e2]; simp only [Option.bind_some]
      have hin : inB i x.length = true := inB_iff.2 ⟨g9.1, by omega⟩
      rw [chk_pos hin]
      obtain ⟨s, b3, e3, g10, g11, _⟩ := some_dr hL (a := b2) (by omega) (by omega) [(nth x i).Item, k_zz] (by simp) (by simp)
      rw [e3]; simp only [Option.bind_some]
      obtain ⟨t, b4, e4, g12, g13, _⟩ := odd_dr hL (a := b3) (by omega) (by omega) 1 3 (by omega) (by omega) (by omega)
      rw [e4]; simp only [Option.bind_some]
      obtain ⟨u, b5, e5, g14, g15, hu⟩ := odd_at hL (a := b4) (by omega) (by omega)
      rw [e5]; simp only [Option.bind_some]
      have hn : AtOk (nth x i).At := g4 _ (List.mem_of_getElem? (inB_get hin).1)
      refine ⟨_, _, rfl, fun p hp => ?_⟩
      rcases List.mem_or_eq_of_mem_set hp with hp | rfl
      · rcases List.mem_or_eq_of_mem_set hp with hp | rfl
        · rcases List.mem_or_eq_of_mem_set hp with hp | rfl
          · exact g4 p hp
          · exact hn
        · exact hn
      · exact hu
  · rw [if_neg (by simpa using hp), if_neg (by simp)]
    exact ⟨x, b, rfl, g4⟩
end
/-! ### The live timetable -/
/-- What is so of the i-th heat. -/
def LF (l : List GHeld) (z R : List GSlot) (i : Nat) : Prop := ∀ s r, z[i]? = some s → R[i]? = some r → s.Time.To - s.Time.From = r.Time.To - r.Time.From ∧ s.Item = r.Item ∧ s.Heat = r.Heat ∧ (lastAt r.Item r.Heat l = none → r.Time.From ≤ s.Time.From) ∧ (∀ q, 0 < i → z[i - 1]? = some q → q.Time.To ≤ s.Time.From)
theorem lf_snoc {l : List GHeld} {x3 R dn ys : List GSlot} {y n : GSlot} (h : ∀ i, LF l x3 R i) (hR : R = dn ++ y :: ys) (hl : x3.length = dn.length) (h1 : n.Time.To - n.Time.From = y.Time.To - y.Time.From) (h2 : n.Item = y.Item) (h3 : n.Heat = y.Heat)
    (h4 : lastAt y.Item y.Heat l = none → y.Time.From ≤ n.Time.From) (h5 : ∀ q, x3.getLast? = some q → q.Time.To ≤ n.Time.From) : ∀ i, LF l (x3 ++ [n]) R i := by
  intro i s r hs hr
  rcases Nat.lt_trichotomy i x3.length with hi | hi | hi
  · rw [List.getElem?_append_left hi] at hs
    obtain ⟨g1, g2, g3, g4, g5⟩ := h i s r hs hr
    exact ⟨g1, g2, g3, g4, fun q h0 hq => g5 q h0 (by rwa [List.getElem?_append_left (by omega)] at hq)⟩
  · subst hi
    rw [List.getElem?_append_right (Nat.le_refl _)] at hs
    simp only [Nat.sub_self, List.getElem?_cons_zero, Option.some.injEq] at hs
    subst hs
    rw [hR, hl, List.getElem?_append_right (Nat.le_refl _)] at hr
    simp only [Nat.sub_self, List.getElem?_cons_zero, Option.some.injEq] at hr
    subst hr
    refine ⟨h1, h2, h3, h4, fun q h0 hq => h5 q ?_⟩
    rw [List.getElem?_append_left (by omega)] at hq
    rw [List.getLast?_eq_getElem?]; exact hq
  · rw [List.getElem?_eq_none (by simp; omega)] at hs; cases hs
theorem live_h (l : List GHeld) (hAt : ∀ p ∈ l, 0 ≤ p.At ∧ p.At ≤ 10000) (n1 : List (Gsession_heat × Bool)) (n2 : List (Gsession_heat × Int)) (hn1 : ∀ item h, mgetD n1 ⟨item, h⟩ false = (lastAt item h l).isSome) (hn2 : ∀ item h, mgetD n2 ⟨item, h⟩ 0 = (lastAt item h l).getD 0)
    (R : List GSlot) (hR : R.length ≤ 6000) (t : Int) (ht0 : 0 ≤ t) (ht : t ≤ 100000) : ∀ (ys dn x3 : List GSlot), R = dn ++ ys → x3.length = dn.length →
    ((dn = [] ∧ x3 = [] ∧ Ch t ys) ∨ ∃ (d : List GSlot) (P : GSlot) (x : List GSlot) (Q : GSlot), dn = d ++ [P] ∧ x3 = x ++ [Q] ∧ Ch P.Time.To ys ∧ 0 ≤ P.Time.To ∧ P.Time.To ≤ 1000000 + dn.length * 7200000 ∧ 0 ≤ Q.Time.To ∧ Q.Time.To ≤ 1000000 + dn.length * 20000000) →
    (∀ i, LF l x3 R i) → (l = [] → x3 = dn) → (∀ s ∈ x3, s.Time.To ≤ 300000000000) →
    ∃ z, session_live_l2 n1 n2 R (fun x => some (x, R)) ys dn.length x3 = some (z, R) ∧ z.length = R.length ∧ (∀ i, LF l z R i) ∧ (l = [] → z = R) ∧ ∀ s ∈ z, s.Time.To ≤ 300000000000 := by
  intro ys
  induction ys with
  | nil =>
    intro dn x3 h1 h2 _ h4 h5 h6
    rw [List.append_nil] at h1
    exact ⟨x3, rfl, by rw [h2, h1], h4, fun h => (h5 h).trans h1.symm, h6⟩
  | cons y ys ih =>
    intro dn x3 h1 h2 h3 h4 h5 h6
    rw [session_live_l2]
    simp only [join_eq]
    have hRl : dn.length + (ys.length + 1) ≤ 6000 := by rw [h1] at hR; simpa using hR
    have main : ∃ v : Int, (∀ k : Int → Option (List GSlot × List GSlot), (if decide (0 < (dn.length : Int)) = true then
          Chk (inB (W ((dn.length : Int) - 1)) x3.length) (Chk (inB (W ((dn.length : Int) - 1)) R.length)
            (if mgetD n1 (Gsession_heat.mk y.Item y.Heat) false = true then if decide (0 < (dn.length : Int)) = true then Chk (inB (W ((dn.length : Int) - 1)) x3.length) (k (imax (mgetD n2 (Gsession_heat.mk y.Item y.Heat) 0) ((nth x3 (W ((dn.length : Int) - 1))).Time.To))) else k (mgetD n2 (Gsession_heat.mk y.Item y.Heat) 0)
              else k (imax y.Time.From (W (W ((nth x3 (W ((dn.length : Int) - 1))).Time.To + y.Time.From) - (nth R (W ((dn.length : Int) - 1))).Time.To)))))
        else if mgetD n1 (Gsession_heat.mk y.Item y.Heat) false = true then if decide (0 < (dn.length : Int)) = true then Chk (inB (W ((dn.length : Int) - 1)) x3.length) (k (imax (mgetD n2 (Gsession_heat.mk y.Item y.Heat) 0) ((nth x3 (W ((dn.length : Int) - 1))).Time.To))) else k (mgetD n2 (Gsession_heat.mk y.Item y.Heat) 0)
              else k y.Time.From) = k v) ∧
        0 ≤ v ∧ v ≤ 1000000 + dn.length * 20000000 + 3600000 ∧ (lastAt y.Item y.Heat l = none → y.Time.From ≤ v) ∧ (∀ q, x3.getLast? = some q → q.Time.To ≤ v) ∧ (l = [] → v = y.Time.From) ∧ y.Time.From ≤ y.Time.To ∧ y.Time.To ≤ y.Time.From + 3600000 ∧ Ch y.Time.To ys ∧ 0 ≤ y.Time.To ∧ y.Time.To ≤ 1000000 + (dn.length + 1) * 7200000 := by
      rcases h3 with ⟨rfl, rfl, hc⟩ | ⟨d, P, x, Q, rfl, rfl, hc, p0, p1, q0, q1⟩
      · rw [Ch] at hc
        simp only [List.length_nil, Int.natCast_zero, Int.lt_irrefl, decide_false, Bool.false_eq_true, if_false, hn1, hn2]
        cases ha : lastAt y.Item y.Heat l with
        | none =>
          refine ⟨y.Time.From, fun k => by simp, by omega, by omega, (fun _ => Int.le_refl _), (fun q hq => by simp at hq), (fun _ => rfl), by omega, by omega, hc.2.2.2.2, by omega, by omega⟩
        | some a =>
          obtain ⟨p, hp, rfl⟩ := lastAt_mem _ _ _ _ ha
          have := hAt p hp
          refine ⟨p.At, fun k => by simp, by omega, by omega, (fun h => by cases h), (fun q hq => by simp at hq), (fun h => by rw [h] at hp; cases hp), by omega, by omega, hc.2.2.2.2, by omega, by omega⟩
      · rw [Ch] at hc
        have hl1 : ((d ++ [P]).length : Int) = (d.length : Int) + 1 := by simp
        have hpos : decide (0 < ((d ++ [P]).length : Int)) = true := by rw [hl1]; simp
        have hxd : x.length = d.length := by simpa using h2
        have hw : W (((d ++ [P]).length : Int) - 1) = (d.length : Int) := by rw [hl1, W_in (by simp at hRl; omega) (by simp at hRl; omega)]; omega
        have c1 : inB (d.length : Int) (x ++ [Q]).length = true := by rw [inB_iff]; simp; omega
        have c2 : inB (d.length : Int) R.length = true := by rw [inB_iff, h1]; simp; omega
        have e1 : nth (x ++ [Q]) (d.length : Int) = Q := by unfold nth; rw [← hxd]; simp
        have e2 : nth R (d.length : Int) = P := by unfold nth; rw [h1]; simp
        rw [hl1] at p1 q1
        have hb := hRl
        simp at hb
        have ev : W (W (Q.Time.To + y.Time.From) - P.Time.To) = Q.Time.To + y.Time.From - P.Time.To := by rw [W_subl]; exact W_in (by omega) (by omega)
        simp only [hw, hpos, if_true, chk_pos c1, chk_pos c2, e1, e2, hn1, hn2, ev]
        rw [hl1]
        cases ha : lastAt y.Item y.Heat l with
        | none =>
          have hmx : imax y.Time.From (Q.Time.To + y.Time.From - P.Time.To) = max y.Time.From (Q.Time.To + y.Time.From - P.Time.To) := by unfold imax; split <;> omega
          refine ⟨imax y.Time.From (Q.Time.To + y.Time.From - P.Time.To), fun k => by simp, by omega, by omega, (fun _ => by omega), (fun q hq => by
            have : Q = q := by simpa using hq
            subst this; omega), (fun h => by
            have := List.append_inj' (h5 h) rfl
            have hq : Q = P := by simpa using this.2
            subst hq; omega), by omega, by omega, hc.2.2.2.2, by omega, by omega⟩
        | some a =>
          obtain ⟨p, hp, rfl⟩ := lastAt_mem _ _ _ _ ha
          have := hAt p hp
          have hmx : imax p.At Q.Time.To = max p.At Q.Time.To := by unfold imax; split <;> omega
          refine ⟨imax p.At Q.Time.To, fun k => by simp, by omega, by omega, (fun h => by cases h), (fun q hq => by
            have : Q = q := by simpa using hq
            subst this; omega), (fun h => by rw [h] at hp; cases hp), by omega, by omega, hc.2.2.2.2, by omega, by omega⟩
    obtain ⟨v, m1, v0, v1, v2, v3, v4, y1, y2, y3, y4, y5⟩ := main
    have hto : W (v + W (y.Time.To - y.Time.From)) = v + (y.Time.To - y.Time.From) := by rw [W_addr]; exact W_in (by omega) (by omega)
    obtain ⟨z, z1, z2⟩ := ih (dn ++ [y]) (x3 ++ [GSlot.mk y.Item y.Heat (GWindow.mk v (v + (y.Time.To - y.Time.From)))]) (by rw [h1]; simp) (by simp [h2])
      (.inr ⟨dn, y, x3, _, rfl, rfl, y3, y4, by simp; omega, by simp only; omega, by simp; omega⟩)
      (lf_snoc h4 h1 h2 (by simp only; omega) rfl rfl v2 v3)
      (fun h => by
        have hv := v4 h
        rw [h5 h, hv, show y.Time.From + (y.Time.To - y.Time.From) = y.Time.To by omega])
      (fun s hs => by
        rcases List.mem_append.1 hs with h | h
        · exact h6 s h
        · rw [List.mem_singleton] at h; subst h; simp only; omega)
    rw [List.length_append, List.length_singleton] at z1
    refine ⟨z, ?_, z2⟩
    refine (m1 (fun x5 => Chk (room x3.length) (session_live_l2 n1 n2 R (fun x => some (x, R)) ys (dn.length + 1) (x3 ++ [(GSlot.mk y.Item y.Heat (GWindow.mk x5 (W (x5 + (W (y.Time.To - y.Time.From))))))])))).trans ?_
    rw [chk_pos (by unfold room; simp; omega), hto]
    exact z1
theorem live_run (items : List GItem) (hg : ∀ x ∈ items, Good x) (hi : items.length ≤ 100) (t : Int) (ht0 : 0 ≤ t) (ht : t ≤ 100000) (l : List GHeld) (hAt : ∀ p ∈ l, 0 ≤ p.At ∧ p.At ≤ 10000) :
    ∃ z, session_live items t l = some (z, tt items t) ∧ z.length = (tt items t).length ∧ (∀ i, LF l z (tt items t) i) ∧ (l = [] → z = tt items t) ∧ lastTo z t ≤ 345686400000 ∧ z.length < 1073741824 := by
  have hlen := tt_len items t hg
  obtain ⟨n1, n2, g1, g2, g3⟩ := maps_ok (fun x1 x2 => session_live_l2 x1 x2 (tt items t) (fun x => some (x, tt items t)) (tt items t) 0 []) l 0 [] []
  obtain ⟨z, z1, z2, z3, z4, z5⟩ := live_h l hAt n1 n2 (fun item h => by rw [g2]; simp [mgetD, mget, mfind]) (fun item h => by rw [g3]; simp [mgetD, mget, mfind])
    (tt items t) (by omega) t ht0 ht (tt items t) [] [] rfl rfl (.inl ⟨rfl, rfl, ch_tt items t t hg (Int.le_refl _) (by omega)⟩) (fun i s r hs => by simp at hs) (fun _ => rfl) (fun _ h => by cases h)
  refine ⟨z, ?_, z2, z3, z4, ?_, by omega⟩
  · unfold session_live
    rw [timetable_eq items t hg hi ht0 (by omega)]
    simp only [Option.bind_some, join_eq]
    exact g1.trans z1
  · unfold lastTo
    cases hz : z.getLast? with
    | none => simp only; omega
    | some s => have := z5 s (List.mem_of_getLast? hz); simp only; omega
/-! ### The law's own loops -/
theorem last_any (item : ByteArray) (h : Int) : ∀ l : List GHeld, (lastAt item h l).isSome = l.any fun p => decide (p.Item = item) && decide (p.Heat = h)
  | [] => rfl
  | p :: l => by
    rw [lastAt, List.any_cons, ← last_any item h l]
    cases lastAt item h l with
    | some a => simp
    | none =>
      by_cases h1 : p.Item = item <;> by_cases h2 : p.Heat = h <;> simp [h1, h2]
theorem contains_h (h : List GHeld) (w : List GSlot) (i : Int) (hi : inB i w.length = true) : slices_ContainsFunc_Held_tumbkeep2_HeatsDoNotOverlap_c1 h w i = some (lastAt (nth w i).Item (nth w i).Heat h).isSome := by
  have hc : ∀ y, tumbkeep2_HeatsDoNotOverlap_c1 y w i = some (decide (y.Item = (nth w i).Item) && decide (y.Heat = (nth w i).Heat)) := by
    intro y
    unfold tumbkeep2_HeatsDoNotOverlap_c1
    rw [chk_pos hi]
    simp only [join_eq]
    by_cases h1 : y.Item = (nth w i).Item
    · rw [if_pos (decide_eq_true h1), chk_pos hi]
    · rw [if_neg (by simpa using h1)]; simp [h1]
  have loop : ∀ (l : List GHeld) (k : Nat), ∃ r, slices_IndexFunc_Held_tumbkeep2_HeatsDoNotOverlap_c1_l1 w i (some (-1)) l k = some r ∧ decide (0 ≤ r) = l.any fun p => decide (p.Item = (nth w i).Item) && decide (p.Heat = (nth w i).Heat) := by
    intro l
    induction l with
    | nil => intro k; exact ⟨-1, rfl, rfl⟩
    | cons y l ih =>
      intro k
      rw [slices_IndexFunc_Held_tumbkeep2_HeatsDoNotOverlap_c1_l1, hc, List.any_cons]
      simp only [Option.bind_some]
      cases hb : (decide (y.Item = (nth w i).Item) && decide (y.Heat = (nth w i).Heat)) with
      | true => exact ⟨(k : Int), by simp, by simp⟩
      | false => simpa using ih (k + 1)
  obtain ⟨r, r1, r2⟩ := loop h 0
  unfold slices_ContainsFunc_Held_tumbkeep2_HeatsDoNotOverlap_c1 slices_IndexFunc_Held_tumbkeep2_HeatsDoNotOverlap_c1
  rw [join_eq, r1, last_any, ← r2]; rfl
theorem law_l2 (w t : List GSlot) (h : List GHeld) (e1 e2 e3 : Int) (hl : w.length = t.length) (hw : w.length ≤ 10000) (hF : ∀ i, LF h w t i) : ∀ (m : Nat) (x : Int), 0 ≤ x → x ≤ (w.length : Int) → (w.length : Int) - x < (m : Int) → tumbkeep2_HeatsDoNotOverlap_l2 (w, e1) (h, e2) (t, e3) (some true) m x = some true
  | 0, x, h0, hx, h1 => absurd h1 (by omega)
  | m + 1, x, h0, hxn, h1 => by
    rw [tumbkeep2_HeatsDoNotOverlap_l2]
    by_cases hc : x < (w.length : Int)
    · have hin : inB x w.length = true := inB_iff.2 ⟨h0, hc⟩
      have hin2 : inB x t.length = true := inB_iff.2 ⟨h0, by omega⟩
      simp only [hc, decide_true, if_true, contains_h h w x hin, Option.bind_some, join_eq, chk_pos hin, chk_pos hin2]
      obtain ⟨g1, g2, g3, g4, g5⟩ := hF x.toNat _ _ (inB_get hin).1 (inB_get hin2).1
      have hprev : 0 < x → inB (x - 1) w.length = true ∧ (nth w (x - 1)).Time.To ≤ (nth w x).Time.From := by
        intro hx
        have hi : inB (x - 1) w.length = true := inB_iff.2 ⟨by omega, by omega⟩
        refine ⟨hi, g5 _ (by omega) ?_⟩
        have := (inB_get hi).1
        rwa [show (x - 1).toNat = x.toNat - 1 by omega] at this
      have hnext := law_l2 w t h e1 e2 e3 hl hw hF m (x + 1) (by omega) (by omega) (by omega)
      have c4 : (!decide (W ((nth w x).Time.To - (nth w x).Time.From) = W ((nth t x).Time.To - (nth t x).Time.From))) = false := by rw [g1]; simp
      have c5 : ∀ b : Bool, (lastAt (nth w x).Item (nth w x).Heat h).isSome = b → (!b && decide ((nth w x).Time.From < (nth t x).Time.From)) = false := by
        intro b hb
        cases b with
        | true => rfl
        | false =>
          have : lastAt (nth w x).Item (nth w x).Heat h = none := by simpa using hb
          rw [g2, g3] at this
          have := g4 this
          simp; omega
      rw [W_in (n := x + 1) (by omega) (by omega), c4]
      by_cases hx : 0 < x
      · obtain ⟨p1, p2⟩ := hprev hx
        have c3 : decide ((nth w x).Time.From < (nth w (x - 1)).Time.To) = false := by simp; omega
        rw [W_in (n := x - 1) (by omega) (by omega)]
        simp only [hx, decide_true, if_true, chk_pos p1, c3, Bool.true_and, Bool.false_eq_true, if_false, Bool.or_self]
        cases hb : (lastAt (nth w x).Item (nth w x).Heat h).isSome with
        | true => simp [hnext]
        | false => have := c5 false hb; simp only [Bool.not_false, Bool.true_and] at this; simp [this, hnext]
      · simp only [hx, decide_false, if_false, Bool.false_eq_true, Bool.false_and, Bool.or_self]
        cases hb : (lastAt (nth w x).Item (nth w x).Heat h).isSome with
        | true => simp [hnext]
        | false => have := c5 false hb; simp only [Bool.not_false, Bool.true_and] at this; simp [this, hnext]
    · rw [if_neg (by simpa using hc)]
theorem sum_l (j : Int → Option Bool) : ∀ (l : List GItem) (i : Nat) (a t : Int), (∀ x ∈ l, Good x) → l.length ≤ 100 → 0 ≤ a → a + 60 * l.length ≤ 100000 → tumbkeep2_HeatsDoNotOverlap_l1 j l i a = j (a + ((tt l t).length : Int))
  | [], i, a, t, _, _, _, _ => by simp [tumbkeep2_HeatsDoNotOverlap_l1, tt]
  | y :: l, i, a, t, hg, h1, h2, h3 => by
    have hy := hg y List.mem_cons_self
    unfold Good at hy
    simp only [List.length_cons] at h1 h3
    rw [tumbkeep2_HeatsDoNotOverlap_l1, W_in (by omega) (by omega), sum_l j l (i + 1) (a + y.Heats) (endH y y.Heats.toNat t + y.Break) (fun x hx => hg x (List.mem_cons_of_mem _ hx)) (by omega) (by omega) (by omega)]
    rw [tt, List.length_append, hs_len]
    congr 1; push_cast; omega
theorem plain_HeatsDoNotOverlap (l : List Int) (hl : l.length ≤ 9223372036854775807) : tumbkeep2_HeatsDoNotOverlap l = some true := by
  have hL : LongL l := by unfold LongL; omega
  obtain ⟨x, a1, e1, p1, q1, hx, hI, hP⟩ := right_items_dr hL (a := 0) (by omega) (by omega)
  obtain ⟨t, a2, e2, p2, q2, t1, t2⟩ := range_dr hL (a := a1) (by omega) (by omega) 0 1000 (by omega) (by omega) (by omega)
  obtain ⟨h, a3, e3, hh⟩ := helds_at hL (a := a2) (by omega) (by omega) x hx
  have hg : ∀ z ∈ x, Good z := fun z hz => (hI z hz).1
  have hlen := tt_len x t hg
  have hck : session_CheckItems x = some 0 := by
    unfold session_CheckItems
    rw [if_neg (by simp; omega), join_eq]
    exact items_chk x 0 [] (fun z hz => ⟨hI z hz, rfl⟩) hP
  have hmom : words_IsMoment t = true := by unfold words_IsMoment; simp; omega
  have htt := timetable_eq x t hg (by omega) (by omega) (by omega)
  obtain ⟨z0, y1, y2, y3, y4, y5, y6⟩ := live_run x hg (by omega) t (by omega) (by omega) [] (fun _ h => by cases h)
  have hz0 := y4 rfl
  subst hz0
  have hend := end_eq (tt x t) t (by omega)
  have hT : session_Timetable x t = some (tt x t, 0) := by
    unfold session_Timetable session_begin
    rw [hck, hmom, htt]
    simp only [Option.bind_some, decide_true, Bool.not_true, Bool.false_eq_true, if_false, hend]
    rw [if_neg (by simpa using y5)]
    rfl
  have hrun : ∀ (g : List GHeld) (z : List GSlot), session_CheckHeld x g = some 0 → session_live x t g = some (z, tt x t) → lastTo z t ≤ 345686400000 → z.length < 1073741824 → session_Live x t g = some (z, 0) := by
    intro g z g1 g2 g3 g4
    unfold session_Live session_checkLive
    rw [g1, hmom, g2]
    simp only [Option.bind_some, decide_true, Bool.not_true, Bool.false_eq_true, if_false, end_eq z t g4]
    rw [if_neg (by simpa using g3)]; rfl
  have hV : session_Live x t [] = some (tt x t, 0) := hrun [] _ (by
    unfold session_CheckHeld; rw [hck]
    simp only [Option.bind_some, decide_true, Bool.not_true, Bool.false_eq_true, if_false, join_eq]
    rfl) y1 y5 y6
  unfold tumbkeep2_HeatsDoNotOverlap
  rw [e1]; simp only [Option.bind_some]
  rw [e2]; simp only [Option.bind_some]
  rw [hT, hV]; simp only [Option.bind_some]
  rw [e3]; simp only [Option.bind_some]
  rw [join_eq, sum_l _ x 0 0 t hg (by omega) (by omega) (by omega)]
  have he0 : tumbkeep2_errs [0, 0] = 0 := by decide +kernel
  simp only [join_eq, he0, decide_true, Bool.not_true, Bool.false_eq_true, if_false, equal_slot, Option.bind_some, Bool.or_self, Int.zero_add, ready_ok]
  obtain ⟨e, f1, f2, f3⟩ := held_eq x h
  by_cases he : e = 0
  · subst he
    obtain ⟨_, _, _, hv⟩ := f3 rfl
    obtain ⟨z, z1, z2, z3, _, z5, z6⟩ := live_run x hg (by omega) t (by omega) (by omega) h (fun p hp => by
      obtain ⟨k, y, hq⟩ := hv p hp
      have := hq.a1; have := hq.a2
      have := hh p hp
      unfold AtOk at this; omega)
    rw [hrun h z f1 z1 z5 z6]
    simp only [Option.bind_some, decide_true, Bool.not_true, Bool.false_eq_true, if_false, z2]
    exact law_l2 z (tt x t) h 0 a3 0 z2 (by omega) z3 _ 0 (by omega) (by omega) (by omega)
  · have hno : session_Live x t h = some ([], e) := by
      unfold session_Live session_checkLive
      rw [f1]
      simp [he]
    rw [hno]
    simp [he, f2]
end Go.Proofs.YtefddponhjhdgaaDoor
