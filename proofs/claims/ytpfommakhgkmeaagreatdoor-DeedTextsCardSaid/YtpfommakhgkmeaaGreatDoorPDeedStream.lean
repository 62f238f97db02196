/- What the stream gives of deeds. No program stands here but its twins. -/
import Derived.Test.YtpfommakhgkmeaaGreatDoorPDeedMerge
namespace Go.Proofs.YtpfommakhgkmeaaGreatDoor
open Go
theorem join_ex {κ R : Type} {K : κ} {f : κ → R} (Pr : R → Prop) (p : κ → Prop) (hK : p K) (hf : ∀ K', p K' → Pr (f K')) : Pr (Join K f) := hf K hK
section
variable {L : List Int} (hL : LongL L)
include hL
theorem deedsS_l (many : Int) (hm : many ≤ 100) (j : List (ByteArray × Int) → List GDeed → Int → Option ((List GDeed) × Int)) : ∀ (m : Nat) (x1 : List (ByteArray × Int)) (x2 : List GDeed) (a x4 x5 : Int), 0 ≤ x5 → many - x5 < (m : Int) → 0 ≤ a → a + 20 * m ≤ 10000000 → x2.length + m ≤ 1000 → (∀ e, 0 ≤ mgetD x1 e 0 ∧ mgetD x1 e 0 ≤ x5) →
    ∃ mm x b, Stream_Deeds_l1 many L j (m + 1) x1 x2 a x4 x5 = j mm x b ∧ a ≤ b ∧ b ≤ a + 20 * m ∧ x.length ≤ x2.length + (many - x5).toNat
  | m, x1, x2, a, x4, x5, h1, h2, h3, h4, h5, hx => by
    rw [Stream_Deeds_l1]
    by_cases hc : x5 < many
    · rw [if_pos (decide_eq_true hc)]
      cases m with
      | zero => omega
      | succ m =>
        obtain ⟨v1, b1, e1, g1, g2, _⟩ := pick_dr hL (a := a) h3 (by omega) [0, 1, 5] (by simp) (by simp)
        rw [e1]; simp only [Option.bind_some]
        obtain ⟨v2, b2, e2, g3, g4, _⟩ := some_dr hL (a := b1) (by omega) (by omega) [k_sa, k_sa, k_sb] (by simp) (by simp)
        rw [e2]; simp only [Option.bind_some]
        obtain ⟨v3, b3, e3, g5, g6, _⟩ := pick_dr hL (a := b2) (by omega) (by omega) [1, 1, 1, 3, 3, 3, 2, 4] (by simp) (by simp)
        rw [e3]; simp only [Option.bind_some]
        have hx' : ∀ e, 0 ≤ mgetD (mput x1 v2 (W ((mgetD x1 v2 0) + 1))) e 0 ∧ mgetD (mput x1 v2 (W ((mgetD x1 v2 0) + 1))) e 0 ≤ x5 + 1 := fun e => by
          have q1 := hx v2
          have q2 := hx e
          rw [mgetPut, W_in (by omega) (by omega)]
          split <;> omega
        refine join_ex (fun r => ∃ mm x b, r = j mm x b ∧ a ≤ b ∧ b ≤ a + 20 * ((m + 1 : Nat) : Int) ∧ x.length ≤ x2.length + (many - x5).toNat) (fun K => ∀ s1 s2 c, a ≤ c → c ≤ a + 5 → ∃ mm x b, K s1 s2 c = j mm x b ∧ a ≤ b ∧ b ≤ a + 20 * ((m + 1 : Nat) : Int) ∧ x.length ≤ x2.length + (many - x5).toNat) ?_ ?_
        · intro s1 s2 c hc1 hc2
          refine join_ex (fun r => ∃ mm x b, r = j mm x b ∧ a ≤ b ∧ b ≤ a + 20 * ((m + 1 : Nat) : Int) ∧ x.length ≤ x2.length + (many - x5).toNat) (fun K => ∀ u1 u2 u3 u4 u5 c, a ≤ c → c ≤ a + 8 → ∃ mm x b, K u1 u2 u3 u4 u5 c = j mm x b ∧ a ≤ b ∧ b ≤ a + 20 * ((m + 1 : Nat) : Int) ∧ x.length ≤ x2.length + (many - x5).toNat) ?_ ?_
          · intro u1 u2 u3 u4 u5 c hc1 hc2
            obtain ⟨f, d0, t0, y1, y2, _⟩ := flip_dr hL (a := c) (by omega) (by omega) 100 (by omega)
            rw [t0]; simp only [Option.bind_some]
            refine join_ex (fun r => ∃ mm x b, r = j mm x b ∧ a ≤ b ∧ b ≤ a + 20 * ((m + 1 : Nat) : Int) ∧ x.length ≤ x2.length + (many - x5).toNat) (fun K => ∀ t0 t1 t2 t3 t4 t5 t6 t7 t8 c, a ≤ c → c ≤ a + 17 → ∃ mm x b, K t0 t1 t2 t3 t4 t5 t6 t7 t8 c = j mm x b ∧ a ≤ b ∧ b ≤ a + 20 * ((m + 1 : Nat) : Int) ∧ x.length ≤ x2.length + (many - x5).toNat) ?_ ?_
            · intro q0 q1 q2 q3 q4 q5 q6 q7 q8 c hc1 hc2
              rw [chk_pos (by unfold room; exact decide_eq_true (by omega)), W_in (n := x5 + 1) (by omega) (by omega)]
              obtain ⟨mm, x, b, r1, r2, r3, r4⟩ := deedsS_l many hm j m _ (x2 ++ [_]) c (W (x4 + v1)) (x5 + 1) (by omega) (by omega) (by omega) (by omega) (by simp; omega) hx'
              exact ⟨mm, x, b, r1, by omega, by push_cast; omega, by simp at r4; omega⟩
            · intro K7 hK7
              cases f with
              | false => rw [if_neg (by simp)]; exact hK7 _ _ _ _ _ _ _ _ _ _ (by omega) (by omega)
              | true =>
                rw [if_pos rfl]
                obtain ⟨n, d1, t1, y3, y4, _⟩ := next_dr hL (a := d0) (by omega) (by omega) 4 (by omega)
                rw [t1]; simp only [Option.bind_some]
                refine join_ex (fun r => ∃ mm x b, r = j mm x b ∧ a ≤ b ∧ b ≤ a + 20 * ((m + 1 : Nat) : Int) ∧ x.length ≤ x2.length + (many - x5).toNat) (fun K => ∀ t0 t1 t2 t3 t4 t5 t6 t7 t8 c, a ≤ c → c ≤ a + 17 → ∃ mm x b, K t0 t1 t2 t3 t4 t5 t6 t7 t8 c = j mm x b ∧ a ≤ b ∧ b ≤ a + 20 * ((m + 1 : Nat) : Int) ∧ x.length ≤ x2.length + (many - x5).toNat) ?_ ?_
                · exact hK7
                intro K8 hK8
                refine join_ex (fun r => ∃ mm x b, r = j mm x b ∧ a ≤ b ∧ b ≤ a + 20 * ((m + 1 : Nat) : Int) ∧ x.length ≤ x2.length + (many - x5).toNat) (fun K => ∀ t0 t1 t2 t3 t4 t5 t6 t7 t8 c, a ≤ c → c ≤ a + 17 → ∃ mm x b, K t0 t1 t2 t3 t4 t5 t6 t7 t8 c = j mm x b ∧ a ≤ b ∧ b ≤ a + 20 * ((m + 1 : Nat) : Int) ∧ x.length ≤ x2.length + (many - x5).toNat) ?_ ?_
                · exact hK8
                intro K9 hK9
                split
                · skip
                  obtain ⟨z1, m1, oz1, pz1, qz1, _⟩ := some_dr hL (a := d1) (by omega) (by omega) [k_empty, k_sa] (by simp) (by simp)
                  rw [oz1]; simp only [Option.bind_some]
                  obtain ⟨z2, m2, oz2, pz2, qz2, _⟩ := odd_dr hL (a := m1) (by omega) (by omega) 1 9 (by omega) (by omega) (by omega)
                  rw [oz2]; simp only [Option.bind_some]
                  exact hK9 _ _ _ _ _ _ _ _ _ _ (by omega) (by omega)
                · refine join_ex (fun r => ∃ mm x b, r = j mm x b ∧ a ≤ b ∧ b ≤ a + 20 * ((m + 1 : Nat) : Int) ∧ x.length ≤ x2.length + (many - x5).toNat) (fun K => ∀ t0 t1 t2 t3 t4 t5 t6 c, a ≤ c → c ≤ a + 17 → ∃ mm x b, K t0 t1 t2 t3 t4 t5 t6 c = j mm x b ∧ a ≤ b ∧ b ≤ a + 20 * ((m + 1 : Nat) : Int) ∧ x.length ≤ x2.length + (many - x5).toNat) ?_ ?_
                  · intro q0 q1 q2 q3 q4 q5 q6 c hc1 hc2; exact hK9 _ _ _ _ _ _ _ _ _ _ (by omega) (by omega)
                  intro K10 hK10
                  split
                  · skip
                    obtain ⟨z1, m1, oz1, pz1, qz1, _⟩ := odd_dr hL (a := d1) (by omega) (by omega) 1 4 (by omega) (by omega) (by omega)
                    rw [oz1]; simp only [Option.bind_some]
                    exact hK10 _ _ _ _ _ _ _ _ (by omega) (by omega)
                  · refine join_ex (fun r => ∃ mm x b, r = j mm x b ∧ a ≤ b ∧ b ≤ a + 20 * ((m + 1 : Nat) : Int) ∧ x.length ≤ x2.length + (many - x5).toNat) (fun K => ∀ t0 t1 t2 t3 t4 t5 c, a ≤ c → c ≤ a + 17 → ∃ mm x b, K t0 t1 t2 t3 t4 t5 c = j mm x b ∧ a ≤ b ∧ b ≤ a + 20 * ((m + 1 : Nat) : Int) ∧ x.length ≤ x2.length + (many - x5).toNat) ?_ ?_
                    · intro q0 q1 q2 q3 q4 q5 c hc1 hc2; exact hK10 _ _ _ _ _ _ _ _ (by omega) (by omega)
                    intro K11 hK11
                    split
                    · skip
                      obtain ⟨z1, m1, oz1, pz1, qz1, _⟩ := some_dr hL (a := d1) (by omega) (by omega) [k_empty, k_ann] (by simp) (by simp)
                      rw [oz1]; simp only [Option.bind_some]
                      obtain ⟨z2, m2, oz2, pz2, qz2, _⟩ := some_dr hL (a := m1) (by omega) (by omega) [k_A, k_blue] (by simp) (by simp)
                      rw [oz2]; simp only [Option.bind_some]
                      obtain ⟨z3, m3, oz3, pz3, qz3, _⟩ := some_dr hL (a := m2) (by omega) (by omega) [k_empty, k_ra] (by simp) (by simp)
                      rw [oz3]; simp only [Option.bind_some]
                      exact hK11 _ _ _ _ _ _ _ (by omega) (by omega)
                    · skip
                      obtain ⟨z1, m1, oz1, pz1, qz1, _⟩ := odd_dr hL (a := d1) (by omega) (by omega) 0 360000 (by omega) (by omega) (by omega)
                      rw [oz1]; simp only [Option.bind_some]
                      obtain ⟨z2, m2, oz2, pz2, qz2, _⟩ := odd_dr hL (a := m1) (by omega) (by omega) 0 8 (by omega) (by omega) (by omega)
                      rw [oz2]; simp only [Option.bind_some]
                      obtain ⟨z3, m3, oz3, pz3, qz3, _⟩ := odd_dr hL (a := m2) (by omega) (by omega) 0 5 (by omega) (by omega) (by omega)
                      rw [oz3]; simp only [Option.bind_some]
                      exact hK11 _ _ _ _ _ _ _ (by omega) (by omega)
          · intro K3 hK3
            refine join_ex (fun r => ∃ mm x b, r = j mm x b ∧ a ≤ b ∧ b ≤ a + 20 * ((m + 1 : Nat) : Int) ∧ x.length ≤ x2.length + (many - x5).toNat) (fun K => ∀ t0 t1 t2 t3 t4 c, a ≤ c → c ≤ a + 8 → ∃ mm x b, K t0 t1 t2 t3 t4 c = j mm x b ∧ a ≤ b ∧ b ≤ a + 20 * ((m + 1 : Nat) : Int) ∧ x.length ≤ x2.length + (many - x5).toNat) ?_ ?_
            · exact hK3
            intro K4 hK4
            split
            · skip
              obtain ⟨z1, m1, oz1, pz1, qz1, _⟩ := some_dr hL (a := c) (by omega) (by omega) [k_blue, k_red, k_empty] (by simp) (by simp)
              rw [oz1]; simp only [Option.bind_some]
              obtain ⟨z2, m2, oz2, pz2, qz2, _⟩ := pick_dr hL (a := m1) (by omega) (by omega) [0, 5900, 6000, 7000] (by simp) (by simp)
              rw [oz2]; simp only [Option.bind_some]
              exact hK4 _ _ _ _ _ _ (by omega) (by omega)
            · refine join_ex (fun r => ∃ mm x b, r = j mm x b ∧ a ≤ b ∧ b ≤ a + 20 * ((m + 1 : Nat) : Int) ∧ x.length ≤ x2.length + (many - x5).toNat) (fun K => ∀ t0 t1 t2 t3 c, a ≤ c → c ≤ a + 8 → ∃ mm x b, K t0 t1 t2 t3 c = j mm x b ∧ a ≤ b ∧ b ≤ a + 20 * ((m + 1 : Nat) : Int) ∧ x.length ≤ x2.length + (many - x5).toNat) ?_ ?_
              · intro q0 q1 q2 q3 c hc1 hc2; exact hK4 _ _ _ _ _ _ (by omega) (by omega)
              intro K5 hK5
              split
              · skip
                obtain ⟨z1, m1, oz1, pz1, qz1, _⟩ := pick_dr hL (a := c) (by omega) (by omega) [0, 5900, 5900, 6000, 6100] (by simp) (by simp)
                rw [oz1]; simp only [Option.bind_some]
                obtain ⟨z2, m2, oz2, pz2, qz2, _⟩ := pick_dr hL (a := m1) (by omega) (by omega) [0, 0, 0, 0, 3] (by simp) (by simp)
                rw [oz2]; simp only [Option.bind_some]
                exact hK5 _ _ _ _ _ (by omega) (by omega)
              · refine join_ex (fun r => ∃ mm x b, r = j mm x b ∧ a ≤ b ∧ b ≤ a + 20 * ((m + 1 : Nat) : Int) ∧ x.length ≤ x2.length + (many - x5).toNat) (fun K => ∀ t0 t1 c, a ≤ c → c ≤ a + 8 → ∃ mm x b, K t0 t1 c = j mm x b ∧ a ≤ b ∧ b ≤ a + 20 * ((m + 1 : Nat) : Int) ∧ x.length ≤ x2.length + (many - x5).toNat) ?_ ?_
                · intro q0 q1 c hc1 hc2; exact hK5 _ _ _ _ _ (by omega) (by omega)
                intro K6 hK6
                split
                · skip
                  obtain ⟨z1, m1, oz1, pz1, qz1, _⟩ := some_dr hL (a := c) (by omega) (by omega) [k_sa, k_sa, k_sb] (by simp) (by simp)
                  rw [oz1]; simp only [Option.bind_some]
                  have hb : imax 1 (mgetD (mput x1 v2 (W ((mgetD x1 v2 0) + 1))) k_sa 0) ≤ 1000 := by
                    have hz := (hx' k_sa).2
                    have hmx : ∀ z : Int, z ≤ x5 + 1 → imax 1 z ≤ 1000 := fun z hz => by
                      unfold imax
                      by_cases hq : z > 1
                      · rw [if_pos hq]; omega
                      · rw [if_neg hq]; omega
                    exact hmx _ hz
                  obtain ⟨z2, m2, oz2, pz2, qz2, _⟩ := range_dr hL (a := m1) (by omega) (by omega) 1 (imax 1 (mgetD (mput x1 v2 (W ((mgetD x1 v2 0) + 1))) k_sa 0)) (by omega) (by omega) (by omega)
                  rw [oz2]; simp only [Option.bind_some]
                  exact hK6 _ _ _ (by omega) (by omega)
                · exact hK6 _ _ _ (by omega) (by omega)
        · intro K hK
          split
          · obtain ⟨w1, c1, t1, q1, q2, _⟩ := some_dr hL (a := b3) (by omega) (by omega) [k_ann, k_bea, k_cid, k_dan] (by simp) (by simp)
            rw [t1]; simp only [Option.bind_some]
            obtain ⟨w2, c2, t2, q3, q4, _⟩ := some_dr hL (a := c1) (by omega) (by omega) [k_ra, k_ra, k_rb, k_rz] (by simp) (by simp)
            rw [t2]; simp only [Option.bind_some]
            exact hK _ _ _ (by omega) (by omega)
          · exact hK _ _ _ (by omega) (by omega)
    · rw [if_neg (by simpa using hc)]
      exact ⟨x1, x2, a, rfl, by omega, by omega, by omega⟩
theorem deeds_dr (many : Int) (h0 : 0 ≤ many) (hm : many ≤ 16) {a : Int} (ha : 0 ≤ a) (ha' : a ≤ 5000000) : ∃ l b, Stream_Deeds L a many = some (l, b) ∧ a ≤ b ∧ b ≤ a + 400 ∧ (l.length : Int) ≤ many := by
  obtain ⟨k, rfl⟩ := Int.eq_ofNat_of_zero_le h0
  unfold Stream_Deeds
  simp only [joinR]
  obtain ⟨mm, x, b, e, g1, g2, g3⟩ := deedsS_l hL (k : Int) (by omega) (fun (x1 : List (ByteArray × Int)) (x2 : List GDeed) (x3 : Int) => Option.bind (slices_SortStableFunc_Deed_tumbref2_DeedOrder x2) (fun r23 => some (r23, x3))) (k + 1) [] [] a 0 0 (by omega) (by omega) ha (by omega) (by simp; omega) (by simp [mgetD, mget, mfind])
  simp only [List.length_nil, Nat.zero_add] at g3
  rw [show (((k : Int) - 0).toNat + 2) = k + 1 + 1 by omega, e, stableD_is x (by omega)]
  exact ⟨_, _, rfl, g1, by omega, by rw [isort_len']; omega⟩
theorem rightD_l (many : Int) (h0 : 0 ≤ many) (hm : many ≤ 16) : ∀ (m : Nat) (a x : Int), 0 ≤ x ∧ x ≤ 5 → 5 - x < (m : Int) → 0 ≤ a → a + 400 * m ≤ 5000000 →
    ∃ l b, Stream_RightDeeds_l1 L many (fun x1 => some (([] : List GDeed), x1)) m a x = some (l, b) ∧ a ≤ b ∧ b ≤ a + 400 * m ∧ (l.length : Int) ≤ many ∧ DsG l
  | 0, a, x, h1, h2, _, _ => by omega
  | m + 1, a, x, h1, h2, h3, h4 => by
    rw [Stream_RightDeeds_l1]
    by_cases hc : x < 5
    · rw [if_pos (decide_eq_true hc)]
      obtain ⟨l, b, e, g1, g2, g3⟩ := deeds_dr hL many h0 hm (a := a) h3 (by omega)
      rw [e]; simp only [Option.bind_some]
      obtain ⟨f, _, f2, f3⟩ := deeds_both l
      rw [f2]; simp only [Option.bind_some]
      by_cases hf : f = 0
      · rw [if_pos (decide_eq_true hf)]
        exact ⟨l, b, rfl, g1, by push_cast; omega, g3, f3 hf⟩
      · rw [if_neg (by simpa using hf), W_in (by omega) (by omega)]
        obtain ⟨l2, b2, e2, q1, q2, q3, q4⟩ := rightD_l many h0 hm m b (x + 1) (by omega) (by omega) (by omega) (by omega)
        exact ⟨l2, b2, e2, by omega, by push_cast; omega, q3, q4⟩
    · rw [if_neg (by simpa using hc)]
      exact ⟨[], a, rfl, by omega, by push_cast; omega, by simp; omega, ⟨by simp, by simp, fun d x y r h => by simp at h, by simp⟩⟩
end
end Go.Proofs.YtpfommakhgkmeaaGreatDoor
