/- Steps that the stream draws are not far, and none is called new. No program stands here but its twins. -/
import Derived.Test.YtahhldfcmbgfpaaGreatDoorPRecK
import Derived.Test.YtahhldfcmbgfpaaGreatDoorPRecL
namespace Go.Proofs.YtahhldfcmbgfpaaGreatDoor
open Go
def idsB : List ByteArray := [k_ia, k_ib, k_ic, k_id, k_ie, k_if] ++ [k_empty, k_A]
def BQ (s : GStep) : Prop := (s.At ≤ 100 ∨ s.At = 1099511627776) ∧ s.Id ∈ idsB
section
variable {L : List Int} (hL : LongL L) {a : Int}
include hL
theorem oddB_dr (h0 : 0 ≤ a) (h1 : a ≤ 1000000000) : Dr a 2 (fun v => v ≤ 51 ∨ v = 1099511627776) (Stream_Odd L a 0 50) := by
  obtain ⟨b, e1⟩ := flip_ok L a 12 h0 (by omega) hL (by omega)
  unfold Stream_Odd
  rw [e1]
  simp only [Option.bind_some]
  cases b with
  | true =>
    obtain ⟨v, e, hv⟩ := pick_ok L (a + 1) [W (0 - 1), W (50 + 1), 0, 50, (-1099511627776), 1099511627776] (by omega) (by omega) hL (by simp) (by simp)
    rw [if_pos rfl, e]
    refine ⟨_, _, rfl, by show a ≤ a + 1 + 1; omega, by show a + 1 + 1 ≤ a + 2; omega, ?_⟩
    have w1 : W (0 - 1) = -1 := rfl
    have w2 : W (50 + 1) = 51 := rfl
    rw [w1, w2] at hv
    simp only [List.mem_cons, List.not_mem_nil, or_false] at hv
    omega
  | false =>
    obtain ⟨v, b, e, g1, g2, g3, g4⟩ := range_dr hL (a := a + 1) (by omega) (by omega) 0 50 (by omega) (by omega) (by omega)
    rw [if_neg (by simp), e]
    exact ⟨v, b, rfl, by omega, by omega, by omega⟩
theorem stepsB_l (many : Int) (hm : many ≤ 16) (j : List GStep → Int → Option ((List GStep) × Int)) : ∀ (m : Nat) (x1 : List GStep) (a x3 x4 : Int), 0 ≤ x4 → many - x4 < (m : Int) → 0 ≤ a → a + 20 * m ≤ 10000000 → x1.length + m ≤ 1000 → (∀ s ∈ x1, BQ s) → 0 ≤ x3 → x3 ≤ 5 * x4 →
    ∃ x b, Stream_Steps_l1 many L j (m + 1) x1 a x3 x4 = j x b ∧ a ≤ b ∧ b ≤ a + 20 * m ∧ x.length ≤ x1.length + m ∧ ∀ s ∈ x, BQ s
  | m, x1, a, x3, x4, h1, h2, h3, h4, h5, hB, h6, h7 => by
    rw [Stream_Steps_l1]
    by_cases hc : x4 < many
    · rw [if_pos (decide_eq_true hc)]
      cases m with
      | zero => omega
      | succ m =>
        obtain ⟨v1, b1, e1, g1, g2, hv1⟩ := pick_dr hL (a := a) h3 (by omega) [0, 1, 1, 5] (by simp) (by simp)
        rw [e1]; simp only [Option.bind_some]
        have hv1 : 0 ≤ v1 ∧ v1 ≤ 5 := by
          simp only [List.mem_cons, List.not_mem_nil, or_false] at hv1
          omega
        have hW : W (x3 + v1) = x3 + v1 := W_in (by omega) (by omega)
        obtain ⟨v2, b2, e2, g3, g4, hv2, _, hv3, _⟩ := swumStep_dr hL (W (x3 + v1)) (a := b1) (by omega) (by omega)
        rw [e2]; simp only [Option.bind_some]
        have hid : v2.Id ∈ idsB := List.mem_append.2 (.inl hv3)
        have hat : W (x3 + v1) ≤ 100 ∨ W (x3 + v1) = 1099511627776 := by omega
        have hat2 : v2.At ≤ 100 ∨ v2.At = 1099511627776 := by omega
        obtain ⟨v3, b3, e3, g5, g6, _⟩ := flip_dr hL (a := b2) (by omega) (by omega) 3 (by omega)
        rw [e3]; simp only [Option.bind_some, joinR]
        have last : ∀ (s1 s2 : Int) (s3 s4 s5 s6 : ByteArray) (s7 s8 c : Int), a ≤ c → c ≤ a + 20 → BQ (GStep.mk s1 s2 s3 s4 s5 s6 s7 s8) → ∃ x b, Chk (room x1.length) (Stream_Steps_l1 many L j (m + 1) (x1 ++ [(GStep.mk s1 s2 s3 s4 s5 s6 s7 s8)]) c (W (x3 + v1)) (W (x4 + 1))) = j x b ∧ a ≤ b ∧ b ≤ a + 20 * ((m + 1 : Nat) : Int) ∧ x.length ≤ x1.length + (m + 1) ∧ ∀ s ∈ x, BQ s := by
          intro s1 s2 s3 s4 s5 s6 s7 s8 c hc1 hc2 hq
          rw [chkT (by unfold room; simp; omega), W_in (n := x4 + 1) (by omega) (by omega)]
          obtain ⟨x, b, r1, r2, r3, r4, r5⟩ := stepsB_l many hm j m (x1 ++ [(GStep.mk s1 s2 s3 s4 s5 s6 s7 s8)]) c (W (x3 + v1)) (x4 + 1) (by omega) (by omega) (by omega) (by omega) (by simp; omega) (fun s hs => by
            rcases List.mem_append.1 hs with hs | hs
            · exact hB s hs
            · rw [List.mem_singleton] at hs; subst hs; exact hq) (by omega) (by omega)
          exact ⟨x, b, r1, by omega, by push_cast; omega, by simp at r4; omega, r5⟩
        have mid : ∀ (s1 s2 : Int) (s4 s5 s6 : ByteArray) (s7 s8 c : Int), a ≤ c → c ≤ a + 9 → (s1 ≤ 100 ∨ s1 = 1099511627776) → ∃ x b, (Option.bind (Stream_Flip L c 80) (fun r5 =>
            if r5.1 then Option.bind (Stream_Next L r5.2 4) (fun r6 =>
              if decide (r6.1 = 0) then Option.bind (Stream_Odd L r6.2 0 50) (fun r7 => Option.bind (Stream_Odd L r7.2 1 3) (fun r8 => Chk (room x1.length) (Stream_Steps_l1 many L j (m + 1) (x1 ++ [(GStep.mk r7.1 r8.1 v2.Id s4 s5 s6 s7 s8)]) r8.2 (W (x3 + v1)) (W (x4 + 1)))))
              else if decide (r6.1 = 1) then Option.bind (Stream_Some L r6.2 [k_empty, v2.Id, k_A]) (fun r9 => Option.bind (Stream_Some L r9.2 [k_empty, s4]) (fun r10 => Chk (room x1.length) (Stream_Steps_l1 many L j (m + 1) (x1 ++ [(GStep.mk s1 s2 r9.1 r10.1 s5 s6 s7 s8)]) r10.2 (W (x3 + v1)) (W (x4 + 1)))))
              else if decide (r6.1 = 2) then Option.bind (Stream_Some L r6.2 [k_A, s5]) (fun r11 => Option.bind (Stream_Some L r11.2 [k_empty, s6]) (fun r12 => Chk (room x1.length) (Stream_Steps_l1 many L j (m + 1) (x1 ++ [(GStep.mk s1 s2 v2.Id s4 r11.1 r12.1 s7 s8)]) r12.2 (W (x3 + v1)) (W (x4 + 1)))))
              else Option.bind (Stream_Odd L r6.2 0 150) (fun r13 => Option.bind (Stream_Odd L r13.2 1 360000) (fun r14 => Chk (room x1.length) (Stream_Steps_l1 many L j (m + 1) (x1 ++ [(GStep.mk s1 s2 v2.Id s4 s5 s6 r13.1 r14.1)]) r14.2 (W (x3 + v1)) (W (x4 + 1))))))
            else Chk (room x1.length) (Stream_Steps_l1 many L j (m + 1) (x1 ++ [(GStep.mk s1 s2 v2.Id s4 s5 s6 s7 s8)]) r5.2 (W (x3 + v1)) (W (x4 + 1))))) = j x b ∧ a ≤ b ∧ b ≤ a + 20 * ((m + 1 : Nat) : Int) ∧ x.length ≤ x1.length + (m + 1) ∧ ∀ s ∈ x, BQ s := by
          intro s1 s2 s4 s5 s6 s7 s8 c hc1 hc2 hs1
          obtain ⟨f, c1, t1, w1, w2, _⟩ := flip_dr hL (a := c) (by omega) (by omega) 80 (by omega)
          rw [t1]; simp only [Option.bind_some]
          cases f with
          | false => rw [if_neg (by simp)]; exact last _ _ _ _ _ _ _ _ c1 (by omega) (by omega) ⟨hs1, hid⟩
          | true =>
            rw [if_pos rfl]
            obtain ⟨n, c2, t2, w3, w4, _⟩ := next_dr hL (a := c1) (by omega) (by omega) 4 (by omega)
            rw [t2]; simp only [Option.bind_some]
            split
            · obtain ⟨u1, d1, o1, p1, p2, hu1⟩ := oddB_dr hL (a := c2) (by omega) (by omega)
              rw [o1]; simp only [Option.bind_some]
              obtain ⟨u2, d2, o2, p3, p4, _⟩ := odd_dr hL (a := d1) (by omega) (by omega) 1 3 (by omega) (by omega) (by omega)
              rw [o2]; simp only [Option.bind_some]
              exact last _ _ _ _ _ _ _ _ d2 (by omega) (by omega) ⟨hu1.elim (fun h => .inl (Int.le_trans h (by decide))) .inr, hid⟩
            · split
              · obtain ⟨u1, d1, o1, p1, p2, hu1⟩ := some_dr hL (a := c2) (by omega) (by omega) [k_empty, v2.Id, k_A] (by simp) (by simp)
                rw [o1]; simp only [Option.bind_some]
                obtain ⟨u2, d2, o2, p3, p4, _⟩ := some_dr hL (a := d1) (by omega) (by omega) [k_empty, s4] (by simp) (by simp)
                rw [o2]; simp only [Option.bind_some]
                have hu2 : u1 ∈ idsB := by
                  simp only [List.mem_cons, List.not_mem_nil, or_false] at hu1
                  rcases hu1 with rfl | rfl | rfl
                  · exact List.mem_append.2 (.inr (by simp))
                  · exact hid
                  · exact List.mem_append.2 (.inr (by simp))
                exact last _ _ _ _ _ _ _ _ d2 (by omega) (by omega) ⟨hs1, hu2⟩
              · split
                · obtain ⟨u1, d1, o1, p1, p2, _⟩ := some_dr hL (a := c2) (by omega) (by omega) [k_A, s5] (by simp) (by simp)
                  rw [o1]; simp only [Option.bind_some]
                  obtain ⟨u2, d2, o2, p3, p4, _⟩ := some_dr hL (a := d1) (by omega) (by omega) [k_empty, s6] (by simp) (by simp)
                  rw [o2]; simp only [Option.bind_some]
                  exact last _ _ _ _ _ _ _ _ d2 (by omega) (by omega) ⟨hs1, hid⟩
                · obtain ⟨u1, d1, o1, p1, p2, _⟩ := odd_dr hL (a := c2) (by omega) (by omega) 0 150 (by omega) (by omega) (by omega)
                  rw [o1]; simp only [Option.bind_some]
                  obtain ⟨u2, d2, o2, p3, p4, _⟩ := odd_dr hL (a := d1) (by omega) (by omega) 1 360000 (by omega) (by omega) (by omega)
                  rw [o2]; simp only [Option.bind_some]
                  exact last _ _ _ _ _ _ _ _ d2 (by omega) (by omega) ⟨hs1, hid⟩
        cases v3 with
        | true =>
          rw [if_pos rfl]
          obtain ⟨u1, d1, o1, p1, p2, _⟩ := pick_dr hL (a := b3) (by omega) (by omega) [2, 3] (by simp) (by simp)
          rw [o1]; simp only [Option.bind_some]
          exact mid _ _ _ _ _ _ _ d1 (by omega) (by omega) hat
        | false =>
          rw [if_neg (by simp)]
          exact mid _ _ _ _ _ _ _ b3 (by omega) (by omega) hat2
    · rw [if_neg (by simpa using hc)]
      exact ⟨x1, a, rfl, by omega, by omega, by omega, hB⟩
end
section
variable {α R : Type} [Inhabited α]
/-- Neighbours are struck, in place: what is left was there. -/
theorem compact3_l (Q : α → Prop) (C : α → α → Bool) (k n : Nat) (j : List α → Int → Option R) (F : Nat → List α → Int → Int → Option R)
    (h : ∀ m x2 x3 x4, F (m + 1) x2 x3 x4 = if decide (x4 < (((n : Int).toNat - (k : Int).toNat : Nat) : Int)) then
      Chk (inB x4 ((n : Int).toNat - (k : Int).toNat)) (Chk (inB (W (x4 - 1)) ((n : Int).toNat - (k : Int).toNat)) (if !(C (nth (cut x2 (k : Int) (n : Int)) x4) (nth (cut x2 (k : Int) (n : Int)) (W (x4 - 1)))) then
        Chk (inB x4 ((n : Int).toNat - (k : Int).toNat)) (Chk (inB x3 x2.length) (F m (x2.set x3.toNat (nth (cut x2 (k : Int) (n : Int)) x4)) (W (x3 + 1)) (W (x4 + 1))))
      else F m x2 x3 (W (x4 + 1)))) else j x2 x3) (hn : n < 1073741824) (hkn : k ≤ n) :
    ∀ (q m : Nat) (x2 : List α) (v r : Nat), q < m → q + r ≥ n - k → 1 ≤ r → x2.length = n → v < k + r → v ≤ n → (∀ s ∈ x2, Q s) → ∃ (x2' : List α) (v' : Nat), F m x2 (v : Int) (r : Int) = j x2' (v' : Int) ∧ x2'.length = n ∧ v' ≤ n ∧ ∀ s ∈ x2', Q s
  | q, m, x2, v, r, h1, h2, h3, h4, h5, h6, h7 => by
    obtain ⟨m, rfl⟩ : ∃ p, m = p + 1 := ⟨m - 1, by omega⟩
    rw [h]
    simp only [Int.toNat_natCast]
    by_cases hr : r < n - k
    · rw [if_pos (by simp; omega), chkT (inB_iff.2 (by omega)), chkT (inB_iff.2 (by rw [W_in (by omega) (by omega)]; omega))]
      have w1 : W ((r : Int) + 1) = ((r + 1 : Nat) : Int) := by rw [W_in (by omega) (by omega)]; rfl
      have w2 : W ((v : Int) + 1) = ((v + 1 : Nat) : Int) := by rw [W_in (by omega) (by omega)]; rfl
      rw [w1, w2]
      obtain ⟨q, rfl⟩ : ∃ p, q = p + 1 := ⟨q - 1, by omega⟩
      split
      · rw [chkT (inB_iff.2 (by omega)), chkT (inB_iff.2 (by omega))]
        refine compact3_l Q C k n j F h hn hkn q m _ (v + 1) (r + 1) (by omega) (by omega) (by omega) (by simpa using h4) (by omega) (by omega) fun s hs => ?_
        rcases List.mem_or_eq_of_mem_set hs with hs | hs
        · exact h7 s hs
        · rw [hs]
          refine h7 _ ?_
          have hc : (cut x2 (k : Int) (n : Int)).length = n - k := by simp [cut]; omega
          have hm := List.mem_of_getElem? (inB_get (l := cut x2 (k : Int) (n : Int)) (e := (r : Int)) (inB_iff.2 (by omega))).1
          unfold cut at hm ⊢
          exact List.mem_of_mem_take (List.mem_of_mem_drop hm)
      · exact compact3_l Q C k n j F h hn hkn q m _ v (r + 1) (by omega) (by omega) (by omega) h4 (by omega) h6 h7
    · rw [if_neg (by simp; omega)]
      exact ⟨x2, v, rfl, h4, h6, h7⟩
end
theorem compactB_1 (Q : GStep → Prop) (l : List GStep) (hl : l.length ≤ 1000) (hQ : ∀ s ∈ l, Q s) : ∀ (q m : Nat) (r : Nat), q < m → q + r ≥ l.length → 1 ≤ r → ∃ x, slices_CompactFunc_Step_Stream_Steps_c1_l1 l (some l) m (r : Int) = some x ∧ x.length ≤ l.length ∧ ∀ s ∈ x, Q s
  | q, m, r, h1, h2, h3 => by
    obtain ⟨m, rfl⟩ : ∃ p, m = p + 1 := ⟨m - 1, by omega⟩
    rw [slices_CompactFunc_Step_Stream_Steps_c1_l1]
    by_cases hr : (r : Int) < (l.length : Int)
    · rw [if_pos (decide_eq_true hr), chkT (inB_iff.2 (by omega)), chkT (inB_iff.2 (by rw [W_in (by omega) (by omega)]; omega))]
      split
      · rw [chkT (cutB_iff.2 (by omega)), joinR]
        obtain ⟨x2, v, e, e1, e2, e3⟩ := compact3_l Q Stream_Steps_c1 r l.length _ (slices_CompactFunc_Step_Stream_Steps_c1_l2 l (r : Int) (fun (x2 : List GStep) (x3 : Int) => Chk (cutB x3 (x2.length : Int) x2.length) (Chk (cutB 0 x3 (clr x2 x3 (x2.length : Int) (GStep.mk 0 0 k_empty k_empty k_empty k_empty 0 0)).length) (
          some (cut (clr x2 x3 (x2.length : Int) (GStep.mk 0 0 k_empty k_empty k_empty k_empty 0 0)) (0 : Int) x3))))) (fun _ _ _ _ => rfl) (by omega) (by omega) (l.length - r - 1) (((((l.length : Int).toNat - (r : Int).toNat : Nat) : Int) - 1).toNat + 2) l r 1 (by simp only [Int.toNat_natCast]; omega) (by omega) (by omega) rfl (by omega) (by omega) hQ
        obtain ⟨c1, c2, c3⟩ := cut_clr (x2.take v) (x2.drop v) (GStep.mk 0 0 k_empty k_empty k_empty k_empty 0 0)
        have ht : (x2.take v).length = v := by rw [List.length_take]; omega
        rw [List.take_append_drop, ht] at c1 c2 c3
        refine ⟨x2.take v, ?_, by omega, fun s hs => e3 s (List.mem_of_mem_take hs)⟩
        refine e.trans ?_
        rw [chkT c1, chkT c2, c3]
      · have hw : W ((r : Int) + 1) = ((r + 1 : Nat) : Int) := by rw [W_in (by omega) (by omega)]; rfl
        rw [hw]
        exact compactB_1 Q l hl hQ (q - 1) m (r + 1) (by omega) (by omega) (by omega)
    · rw [if_neg (by simpa using hr)]
      exact ⟨l, rfl, Nat.le_refl _, hQ⟩
theorem compactB_is (Q : GStep → Prop) (l : List GStep) (hl : l.length ≤ 1000) (hQ : ∀ s ∈ l, Q s) : ∃ x, slices_CompactFunc_Step_Stream_Steps_c1 l = some x ∧ x.length ≤ l.length ∧ ∀ s ∈ x, Q s := by
  unfold slices_CompactFunc_Step_Stream_Steps_c1
  split
  · exact ⟨l, rfl, Nat.le_refl _, hQ⟩
  · exact compactB_1 Q l hl hQ l.length _ 1 (by omega) (by omega) (by omega)
section
variable {L : List Int} (hL : LongL L) {a : Int}
include hL
theorem stepsB_dr (many : Int) (hm0 : 0 ≤ many) (hm : many ≤ 16) (h0 : 0 ≤ a) (h1 : a ≤ 1000000) : Dr a 400 (fun x => x.length ≤ 17 ∧ ∀ s ∈ x, BQ s) (Stream_Steps L a many) := by
  unfold Stream_Steps
  simp only [joinR]
  obtain ⟨x, b, e, g1, g2, g3, g4⟩ := stepsB_l hL many (by omega) (fun (x1 : List GStep) (x2 : Int) => Option.bind (slices_SortStableFunc_Step_tumbref2_StepOrder x1) (fun r15 => Option.bind (slices_CompactFunc_Step_Stream_Steps_c1 r15) (fun r16 => some (r16, x2)))) ((many - 0).toNat + 1) [] a 0 0 (by omega) (by omega) h0 (by omega) (by simp; omega) (fun s hs => by cases hs) (by omega) (by omega)
  simp only [List.length_nil, Nat.zero_add] at g3
  rw [isortO_is x (by omega)] at e
  simp only [Option.bind_some] at e
  have hB : ∀ s ∈ isort ltO x, BQ s := by
    intro s hs
    unfold isort at hs
    rw [List.mem_reverse, sortR_mem] at hs
    rcases hs with hs | hs
    · exact g4 s hs
    · cases hs
  obtain ⟨y, e1, e2, e3⟩ := compactB_is BQ (isort ltO x) (by rw [isort_len]; omega) hB
  rw [e1] at e
  rw [isort_len] at e2
  exact ⟨y, b, e, g1, by omega, by omega, e3⟩
theorem rightB_l (many : Int) (hm0 : 0 ≤ many) (hm : many ≤ 16) : ∀ (m : Nat) (a x : Int), 0 ≤ x → 5 - x < (m : Int) → 0 ≤ a → a + 400 * m ≤ 1000000 →
    ∃ y b, Stream_RightSteps_l1 L many (fun x1 => some ([], x1)) (m + 1) a x = some (y, b) ∧ a ≤ b ∧ b ≤ a + 400 * m ∧ y.length ≤ 17 ∧ record_CheckSteps y = some 0 ∧ ∀ s ∈ y, BQ s
  | m, a, x, h1, h2, h3, h4 => by
    rw [Stream_RightSteps_l1]
    by_cases hc : x < 5
    · rw [if_pos (decide_eq_true hc)]
      cases m with
      | zero => omega
      | succ m =>
        obtain ⟨y, b, e, g1, g2, g3, g4⟩ := stepsB_dr hL many hm0 hm (a := a) h3 (by omega)
        rw [e]; simp only [Option.bind_some]
        obtain ⟨f, f1, f2, _⟩ := steps_both y
        rw [f2]; simp only [Option.bind_some]
        by_cases hf : f = 0
        · subst hf
          rw [if_pos (by simp)]
          exact ⟨y, b, rfl, by omega, by omega, g3, f1, g4⟩
        · rw [if_neg (by simpa using hf), W_in (by omega) (by omega)]
          obtain ⟨z, c, r1, r2, r3, r4, r5, r6⟩ := rightB_l many hm0 hm m b (x + 1) (by omega) (by omega) (by omega) (by omega)
          exact ⟨z, c, r1, by omega, by push_cast; omega, r4, r5, r6⟩
    · rw [if_neg (by simpa using hc)]
      exact ⟨[], a, rfl, by omega, by omega, by simp, by decide +kernel, fun s hs => by cases hs⟩
theorem rightB_dr (many : Int) (hm0 : 0 ≤ many) (hm : many ≤ 16) (h0 : 0 ≤ a) (h1 : a ≤ 10000) : Dr a 2400 (fun x => x.length ≤ 17 ∧ record_CheckSteps x = some 0 ∧ ∀ s ∈ x, BQ s) (Stream_RightSteps L a many) := by
  unfold Stream_RightSteps
  simp only [joinR]
  obtain ⟨y, b, r1, r2, r3, r4, r5, r6⟩ := rightB_l hL many hm0 hm 6 a 0 (by omega) (by omega) h0 (by omega)
  exact ⟨y, b, r1, r2, by omega, r4, r5, r6⟩
end
end Go.Proofs.YtahhldfcmbgfpaaGreatDoor
