/- The streams of kinds and steps go on, and are short. No program stands here but its twins. -/
import Derived.Test.YtamfhhmfioghgaaGreatDoorPStr
import Derived.Test.YtamfhhmfioghgaaGreatDoorPRecF
namespace Go.Proofs.YtamfhhmfioghgaaGreatDoor
open Go
section
variable {L : List Int} (hL : LongL L) {a : Int}
include hL
theorem swumStep_dr (t : Int) (h0 : 0 ≤ a) (h1 : a ≤ 100000000) : Dr a 6 (fun x => x.At = t ∧ x.Kind = 1 ∧ x.Id ∈ [k_ia, k_ib, k_ic, k_id, k_ie, k_if] ∧ x.Who ∈ [k_ann, k_bea] ∧ x.Club ∈ [k_blue, k_red, k_empty] ∧ x.Race ∈ [k_ra, k_ra, k_rb] ∧ x.Age ∈ [9, 10, 14, 15, 20] ∧ x.Time ∈ [95, 96, 97, 100, 1, 2]) (Stream_SwumStep L a t) := by
  unfold Stream_SwumStep
  obtain ⟨u1, c1, t1, w1, w2, z1⟩ := some_dr hL (a := a) (by omega) (by omega) [k_ia, k_ib, k_ic, k_id, k_ie, k_if] (by simp) (by simp)
  rw [t1]; simp only [Option.bind_some]
  obtain ⟨u2, c2, t2, w3, w4, z2⟩ := some_dr hL (a := c1) (by omega) (by omega) [k_ann, k_bea] (by simp) (by simp)
  rw [t2]; simp only [Option.bind_some]
  obtain ⟨u3, c3, t3, w5, w6, z3⟩ := some_dr hL (a := c2) (by omega) (by omega) [k_blue, k_red, k_empty] (by simp) (by simp)
  rw [t3]; simp only [Option.bind_some]
  obtain ⟨u4, c4, t4, w7, w8, z4⟩ := some_dr hL (a := c3) (by omega) (by omega) [k_ra, k_ra, k_rb] (by simp) (by simp)
  rw [t4]; simp only [Option.bind_some]
  obtain ⟨u5, c5, t5, w9, w10, z5⟩ := pick_dr hL (a := c4) (by omega) (by omega) [9, 10, 14, 15, 20] (by simp) (by simp)
  rw [t5]; simp only [Option.bind_some]
  obtain ⟨u6, c6, t6, w11, w12, z6⟩ := pick_dr hL (a := c5) (by omega) (by omega) [95, 96, 97, 100, 1, 2] (by simp) (by simp)
  rw [t6]; simp only [Option.bind_some]
  exact ⟨_, c6, rfl, by omega, by omega, rfl, rfl, z1, z2, z3, z4, z5, z6⟩
theorem steps_l (many : Int) (hm : many ≤ 100) (j : List GStep → Int → Option ((List GStep) × Int)) : ∀ (m : Nat) (x1 : List GStep) (a x3 x4 : Int), 0 ≤ x4 → many - x4 < (m : Int) → 0 ≤ a → a + 20 * m ≤ 10000000 → x1.length + m ≤ 1000 →
    ∃ x b, Stream_Steps_l1 many L j (m + 1) x1 a x3 x4 = j x b ∧ a ≤ b ∧ b ≤ a + 20 * m ∧ x.length ≤ x1.length + m
  | m, x1, a, x3, x4, h1, h2, h3, h4, h5 => by
    rw [Stream_Steps_l1]
    by_cases hc : x4 < many
    · rw [if_pos (decide_eq_true hc)]
      cases m with
      | zero => omega
      | succ m =>
        obtain ⟨v1, b1, e1, g1, g2, _⟩ := pick_dr hL (a := a) h3 (by omega) [0, 1, 1, 5] (by simp) (by simp)
        rw [e1]; simp only [Option.bind_some]
        obtain ⟨v2, b2, e2, g3, g4, _⟩ := swumStep_dr hL (W (x3 + v1)) (a := b1) (by omega) (by omega)
        rw [e2]; simp only [Option.bind_some]
        obtain ⟨v3, b3, e3, g5, g6, _⟩ := flip_dr hL (a := b2) (by omega) (by omega) 3 (by omega)
        rw [e3]; simp only [Option.bind_some, joinR]
        have last : ∀ (s1 s2 : Int) (s3 s4 s5 s6 : ByteArray) (s7 s8 c : Int), a ≤ c → c ≤ a + 20 → ∃ x b, Chk (room x1.length) (Stream_Steps_l1 many L j (m + 1) (x1 ++ [(GStep.mk s1 s2 s3 s4 s5 s6 s7 s8)]) c (W (x3 + v1)) (W (x4 + 1))) = j x b ∧ a ≤ b ∧ b ≤ a + 20 * ((m + 1 : Nat) : Int) ∧ x.length ≤ x1.length + (m + 1) := by
          intro s1 s2 s3 s4 s5 s6 s7 s8 c hc1 hc2
          rw [chkT (by unfold room; simp; omega), W_in (n := x4 + 1) (by omega) (by omega)]
          obtain ⟨x, b, r1, r2, r3, r4⟩ := steps_l many hm j m (x1 ++ [(GStep.mk s1 s2 s3 s4 s5 s6 s7 s8)]) c (W (x3 + v1)) (x4 + 1) (by omega) (by omega) (by omega) (by omega) (by simp; omega)
          exact ⟨x, b, r1, by omega, by push_cast; omega, by simp at r4; omega⟩
        have mid : ∀ (s1 s2 : Int) (s4 s5 s6 : ByteArray) (s7 s8 c : Int), a ≤ c → c ≤ a + 9 → ∃ x b, (Option.bind (Stream_Flip L c 80) (fun r5 =>
            if r5.1 then Option.bind (Stream_Next L r5.2 4) (fun r6 =>
              if decide (r6.1 = 0) then Option.bind (Stream_Odd L r6.2 0 50) (fun r7 => Option.bind (Stream_Odd L r7.2 1 3) (fun r8 => Chk (room x1.length) (Stream_Steps_l1 many L j (m + 1) (x1 ++ [(GStep.mk r7.1 r8.1 v2.Id s4 s5 s6 s7 s8)]) r8.2 (W (x3 + v1)) (W (x4 + 1)))))
              else if decide (r6.1 = 1) then Option.bind (Stream_Some L r6.2 [k_empty, v2.Id, k_A]) (fun r9 => Option.bind (Stream_Some L r9.2 [k_empty, s4]) (fun r10 => Chk (room x1.length) (Stream_Steps_l1 many L j (m + 1) (x1 ++ [(GStep.mk s1 s2 r9.1 r10.1 s5 s6 s7 s8)]) r10.2 (W (x3 + v1)) (W (x4 + 1)))))
              else if decide (r6.1 = 2) then Option.bind (Stream_Some L r6.2 [k_A, s5]) (fun r11 => Option.bind (Stream_Some L r11.2 [k_empty, s6]) (fun r12 => Chk (room x1.length) (Stream_Steps_l1 many L j (m + 1) (x1 ++ [(GStep.mk s1 s2 v2.Id s4 r11.1 r12.1 s7 s8)]) r12.2 (W (x3 + v1)) (W (x4 + 1)))))
              else Option.bind (Stream_Odd L r6.2 0 150) (fun r13 => Option.bind (Stream_Odd L r13.2 1 360000) (fun r14 => Chk (room x1.length) (Stream_Steps_l1 many L j (m + 1) (x1 ++ [(GStep.mk s1 s2 v2.Id s4 s5 s6 r13.1 r14.1)]) r14.2 (W (x3 + v1)) (W (x4 + 1))))))
            else Chk (room x1.length) (Stream_Steps_l1 many L j (m + 1) (x1 ++ [(GStep.mk s1 s2 v2.Id s4 s5 s6 s7 s8)]) r5.2 (W (x3 + v1)) (W (x4 + 1))))) = j x b ∧ a ≤ b ∧ b ≤ a + 20 * ((m + 1 : Nat) : Int) ∧ x.length ≤ x1.length + (m + 1) := by
          intro s1 s2 s4 s5 s6 s7 s8 c hc1 hc2
          obtain ⟨f, c1, t1, w1, w2, _⟩ := flip_dr hL (a := c) (by omega) (by omega) 80 (by omega)
          rw [t1]; simp only [Option.bind_some]
          cases f with
          | false => rw [if_neg (by simp)]; exact last _ _ _ _ _ _ _ _ c1 (by omega) (by omega)
          | true =>
            rw [if_pos rfl]
            obtain ⟨n, c2, t2, w3, w4, _⟩ := next_dr hL (a := c1) (by omega) (by omega) 4 (by omega)
            rw [t2]; simp only [Option.bind_some]
            split
            · obtain ⟨u1, d1, o1, p1, p2, _⟩ := odd_dr hL (a := c2) (by omega) (by omega) 0 50 (by omega) (by omega) (by omega)
              rw [o1]; simp only [Option.bind_some]
              obtain ⟨u2, d2, o2, p3, p4, _⟩ := odd_dr hL (a := d1) (by omega) (by omega) 1 3 (by omega) (by omega) (by omega)
              rw [o2]; simp only [Option.bind_some]
              exact last _ _ _ _ _ _ _ _ d2 (by omega) (by omega)
            · split
              · obtain ⟨u1, d1, o1, p1, p2, _⟩ := some_dr hL (a := c2) (by omega) (by omega) [k_empty, v2.Id, k_A] (by simp) (by simp)
                rw [o1]; simp only [Option.bind_some]
                obtain ⟨u2, d2, o2, p3, p4, _⟩ := some_dr hL (a := d1) (by omega) (by omega) [k_empty, s4] (by simp) (by simp)
                rw [o2]; simp only [Option.bind_some]
                exact last _ _ _ _ _ _ _ _ d2 (by omega) (by omega)
              · split
                · obtain ⟨u1, d1, o1, p1, p2, _⟩ := some_dr hL (a := c2) (by omega) (by omega) [k_A, s5] (by simp) (by simp)
                  rw [o1]; simp only [Option.bind_some]
                  obtain ⟨u2, d2, o2, p3, p4, _⟩ := some_dr hL (a := d1) (by omega) (by omega) [k_empty, s6] (by simp) (by simp)
                  rw [o2]; simp only [Option.bind_some]
                  exact last _ _ _ _ _ _ _ _ d2 (by omega) (by omega)
                · obtain ⟨u1, d1, o1, p1, p2, _⟩ := odd_dr hL (a := c2) (by omega) (by omega) 0 150 (by omega) (by omega) (by omega)
                  rw [o1]; simp only [Option.bind_some]
                  obtain ⟨u2, d2, o2, p3, p4, _⟩ := odd_dr hL (a := d1) (by omega) (by omega) 1 360000 (by omega) (by omega) (by omega)
                  rw [o2]; simp only [Option.bind_some]
                  exact last _ _ _ _ _ _ _ _ d2 (by omega) (by omega)
        cases v3 with
        | true =>
          rw [if_pos rfl]
          obtain ⟨u1, d1, o1, p1, p2, _⟩ := pick_dr hL (a := b3) (by omega) (by omega) [2, 3] (by simp) (by simp)
          rw [o1]; simp only [Option.bind_some]
          exact mid _ _ _ _ _ _ _ d1 (by omega) (by omega)
        | false =>
          rw [if_neg (by simp)]
          exact mid _ _ _ _ _ _ _ b3 (by omega) (by omega)
    · rw [if_neg (by simpa using hc)]
      exact ⟨x1, a, rfl, by omega, by omega, by omega⟩
end
def ltO (x y : GStep) : Bool := decide (tumbref2_StepOrder x y < 0)
theorem isortO_is (l : List GStep) (hl : l.length ≤ 19) : slices_SortStableFunc_Step_tumbref2_StepOrder l = some (isort ltO l) := by
  have hs : slices_insertionSortCmpFunc_Step_tumbref2_StepOrder l 0 (l.length : Int) = some (isort ltO l) := by
    unfold slices_insertionSortCmpFunc_Step_tumbref2_StepOrder
    simp only [joinR]
    have hins : ∀ (k : List GStep → Option (List GStep)) (rp : List GStep) (x : GStep) (post : List GStep), ((rp ++ x :: post).length : Int) = (l.length : Int) → (∀ y, y ∈ rp ∨ y = x ∨ y ∈ post → y ∈ (rp ++ x :: post)) →
        slices_insertionSortCmpFunc_Step_tumbref2_StepOrder_l2 0 k (((rp.length : Int) - 0).toNat + 2) (rp.reverse ++ x :: post) (rp.length : Int) = k ((insR ltO x rp).reverse ++ post) := by
      intro k rp x post h1 _
      exact ins_l (fun x y k => k (ltO x y)) ltO k (slices_insertionSortCmpFunc_Step_tumbref2_StepOrder_l2 0 k) (fun _ _ _ => rfl) rp x post _ (by omega) (by simp at h1; omega) fun y _ k' => rfl
    cases l with
    | nil => rfl
    | cons x l =>
      have hw : W (0 + 1) = (([x] : List GStep).length : Int) := rfl
      rw [hw]
      exact isort_l ltO (fun x => some x) (fun k x i => slices_insertionSortCmpFunc_Step_tumbref2_StepOrder_l2 0 k ((i - 0).toNat + 2) x i) (slices_insertionSortCmpFunc_Step_tumbref2_StepOrder_l1 ((x :: l).length : Int) 0 fun x => some x) ((x :: l).length : Int) (fun _ _ _ => rfl)
        (fun k rp x post h1 h2 => hins k rp x post h1 h2) l [x] _ (by simp only [List.length_cons, List.length_nil]; omega) (by simp only [List.length_cons, List.length_nil]; omega) (by simp only [List.length_cons, List.length_nil] at hl ⊢; omega)
  unfold slices_SortStableFunc_Step_tumbref2_StepOrder slices_stableCmpFunc_Step_tumbref2_StepOrder
  simp only [joinR]
  rw [slices_stableCmpFunc_Step_tumbref2_StepOrder_l1, if_neg (by simp; omega), hs]
  simp only [Option.bind_some]
  rw [slices_stableCmpFunc_Step_tumbref2_StepOrder_l2, if_neg (by simp; omega)]
  rfl
theorem sortR_len {α : Type} (lt : α → α → Bool) : ∀ l rp : List α, (sortR lt l rp).length = l.length + rp.length
  | [], rp => by simp [sortR]
  | x :: l, rp => by
    show (sortR lt l (insR lt x rp)).length = _
    rw [sortR_len lt l, insR_len]
    simp only [List.length_cons]
    omega
theorem isort_len {α : Type} (lt : α → α → Bool) (l : List α) : (isort lt l).length = l.length := by
  unfold isort
  rw [List.length_reverse, sortR_len]
  simp
theorem compactO_1 (l : List GStep) (hl : l.length ≤ 1000) : ∀ (q m : Nat) (r : Nat), q < m → q + r ≥ l.length → 1 ≤ r → ∃ x, slices_CompactFunc_Step_Stream_Steps_c1_l1 l (some l) m (r : Int) = some x ∧ x.length ≤ l.length
  | q, m, r, h1, h2, h3 => by
    obtain ⟨m, rfl⟩ : ∃ p, m = p + 1 := ⟨m - 1, by omega⟩
    rw [slices_CompactFunc_Step_Stream_Steps_c1_l1]
    by_cases hr : (r : Int) < (l.length : Int)
    · rw [if_pos (decide_eq_true hr), chkT (inB_iff.2 (by omega)), chkT (inB_iff.2 (by rw [W_in (by omega) (by omega)]; omega))]
      split
      · rw [chkT (cutB_iff.2 (by omega)), joinR]
        obtain ⟨x2, v, e, e1, e2⟩ := compact2_l Stream_Steps_c1 r l.length _ (slices_CompactFunc_Step_Stream_Steps_c1_l2 l (r : Int) (fun (x2 : List GStep) (x3 : Int) => Chk (cutB x3 (x2.length : Int) x2.length) (Chk (cutB 0 x3 (clr x2 x3 (x2.length : Int) (GStep.mk 0 0 k_empty k_empty k_empty k_empty 0 0)).length) (
          some (cut (clr x2 x3 (x2.length : Int) (GStep.mk 0 0 k_empty k_empty k_empty k_empty 0 0)) (0 : Int) x3))))) (fun _ _ _ _ => rfl) (by omega) (by omega) (l.length - r - 1) (((((l.length : Int).toNat - (r : Int).toNat : Nat) : Int) - 1).toNat + 2) l r 1 (by simp only [Int.toNat_natCast]; omega) (by omega) (by omega) rfl (by omega) (by omega)
        refine ⟨cut (clr x2 (v : Int) (x2.length : Int) (GStep.mk 0 0 k_empty k_empty k_empty k_empty 0 0)) (0 : Int) (v : Int), ?_, ?_⟩
        · refine e.trans ?_
          rw [chkT (cutB_iff.2 (by omega)), chkT (cutB_iff.2 ⟨by omega, by omega, by simp [clr]; omega⟩)]
        · simp [cut]
          omega
      · have hw : W ((r : Int) + 1) = ((r + 1 : Nat) : Int) := by rw [W_in (by omega) (by omega)]; rfl
        rw [hw]
        exact compactO_1 l hl (q - 1) m (r + 1) (by omega) (by omega) (by omega)
    · rw [if_neg (by simpa using hr)]
      exact ⟨l, rfl, Nat.le_refl _⟩
theorem compactO_is (l : List GStep) (hl : l.length ≤ 1000) : ∃ x, slices_CompactFunc_Step_Stream_Steps_c1 l = some x ∧ x.length ≤ l.length := by
  unfold slices_CompactFunc_Step_Stream_Steps_c1
  split
  · exact ⟨l, rfl, Nat.le_refl _⟩
  · exact compactO_1 l hl l.length _ 1 (by omega) (by omega) (by omega)
section
variable {L : List Int} (hL : LongL L) {a : Int}
include hL
theorem steps_dr (many : Int) (hm0 : 0 ≤ many) (hm : many ≤ 16) (h0 : 0 ≤ a) (h1 : a ≤ 1000000) : Dr a 400 (fun x => x.length ≤ 17) (Stream_Steps L a many) := by
  unfold Stream_Steps
  simp only [joinR]
  obtain ⟨x, b, e, g1, g2, g3⟩ := steps_l hL many (by omega) (fun (x1 : List GStep) (x2 : Int) => Option.bind (slices_SortStableFunc_Step_tumbref2_StepOrder x1) (fun r15 => Option.bind (slices_CompactFunc_Step_Stream_Steps_c1 r15) (fun r16 => some (r16, x2)))) ((many - 0).toNat + 1) [] a 0 0 (by omega) (by omega) h0 (by omega) (by simp; omega)
  simp only [List.length_nil, Nat.zero_add] at g3
  rw [isortO_is x (by omega)] at e
  simp only [Option.bind_some] at e
  obtain ⟨y, e1, e2⟩ := compactO_is (isort ltO x) (by rw [isort_len]; omega)
  rw [e1] at e
  rw [isort_len] at e2
  exact ⟨y, b, e, g1, by omega, by omega⟩
theorem rightSteps_l (many : Int) (hm0 : 0 ≤ many) (hm : many ≤ 16) : ∀ (m : Nat) (a x : Int), 0 ≤ x → 5 - x < (m : Int) → 0 ≤ a → a + 400 * m ≤ 1000000 →
    ∃ y b, Stream_RightSteps_l1 L many (fun x1 => some ([], x1)) (m + 1) a x = some (y, b) ∧ a ≤ b ∧ b ≤ a + 400 * m ∧ y.length ≤ 17 ∧ record_CheckSteps y = some 0
  | m, a, x, h1, h2, h3, h4 => by
    rw [Stream_RightSteps_l1]
    by_cases hc : x < 5
    · rw [if_pos (decide_eq_true hc)]
      cases m with
      | zero => omega
      | succ m =>
        obtain ⟨y, b, e, g1, g2, g3⟩ := steps_dr hL many hm0 hm (a := a) h3 (by omega)
        rw [e]; simp only [Option.bind_some]
        obtain ⟨f, f1, f2, _⟩ := steps_both y
        rw [f2]; simp only [Option.bind_some]
        by_cases hf : f = 0
        · subst hf
          rw [if_pos (by simp)]
          exact ⟨y, b, rfl, by omega, by omega, g3, f1⟩
        · rw [if_neg (by simpa using hf), W_in (by omega) (by omega)]
          obtain ⟨z, c, r1, r2, r3, r4, r5⟩ := rightSteps_l many hm0 hm m b (x + 1) (by omega) (by omega) (by omega) (by omega)
          exact ⟨z, c, r1, by omega, by push_cast; omega, r4, r5⟩
    · rw [if_neg (by simpa using hc)]
      exact ⟨[], a, rfl, by omega, by omega, by simp, by decide +kernel⟩
theorem rightSteps_dr (many : Int) (hm0 : 0 ≤ many) (hm : many ≤ 16) (h0 : 0 ≤ a) (h1 : a ≤ 10000) : Dr a 2400 (fun x => x.length ≤ 17 ∧ record_CheckSteps x = some 0) (Stream_RightSteps L a many) := by
  unfold Stream_RightSteps
  simp only [joinR]
  obtain ⟨y, b, r1, r2, r3, r4, r5⟩ := rightSteps_l hL many hm0 hm 6 a 0 (by omega) (by omega) h0 (by omega)
  exact ⟨y, b, r1, r2, by omega, r4, r5⟩
end
end Go.Proofs.YtamfhhmfioghgaaGreatDoor
