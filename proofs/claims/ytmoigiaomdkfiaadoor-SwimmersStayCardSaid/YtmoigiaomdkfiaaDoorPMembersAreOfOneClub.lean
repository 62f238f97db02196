/- The plain law of MembersAreOfOneClub. No program stands here but its twins. -/
import Derived.Test.YtmoigiaomdkfiaaDoorPMembers
import Derived.Test.YtmoigiaomdkfiaaDoorPStr
import Derived.Test.YtmoigiaomdkfiaaDoorPReady
namespace Go.Proofs.YtmoigiaomdkfiaaDoor
open Go
def fiveN : List ByteArray := [k_ann, k_bea, k_cid, k_dan, k_eve]
def clubsN : List ByteArray := [k_blue, k_red, k_empty]
theorem five_key {s : ByteArray} (h : s ∈ fiveN) : words_IsKey s = some true := by
  simp only [fiveN, List.mem_cons, List.not_mem_nil, or_false] at h
  rcases h with rfl | rfl | rfl | rfl | rfl <;> decide +kernel
theorem clubs_key {s : ByteArray} (h : s ∈ clubsN) (h0 : s ≠ k_empty) : words_IsKey s = some true := by
  simp only [clubsN, List.mem_cons, List.not_mem_nil, or_false] at h
  rcases h with rfl | rfl | rfl
  · decide +kernel
  · decide +kernel
  · exact (h0 rfl).elim
/-- A move is right behind another one. -/
def okAt : Option GMove → GMove → Prop
  | none, y => y.Club ≠ k_empty
  | some p, y => (p.Who = y.Who ∧ p.Day < y.Day ∧ p.Club ≠ y.Club) ∨ (p.Who ≠ y.Who ∧ cB p.Who y.Who < 0 ∧ y.Club ≠ k_empty)
def okM (y : GMove) : Prop := y.Who ∈ fiveN ∧ y.Club ∈ clubsN ∧ -40000 ≤ y.Day ∧ y.Day ≤ 4000
def Rt (l : List GMove) : Prop := ∀ dn y ys, l = dn ++ y :: ys → okM y ∧ okAt dn.getLast? y
theorem rt_nil : Rt [] := fun dn y ys h => by simp at h
theorem rt_snoc {l : List GMove} {y : GMove} (h : Rt l) (h1 : okM y) (h2 : okAt l.getLast? y) : Rt (l ++ [y]) := by
  intro dn z ys e
  rcases List.eq_nil_or_concat ys with rfl | ⟨r, w, rfl⟩
  · have h4 := List.append_inj' e rfl
    have hz : y = z := by simpa using h4.2
    subst hz; rw [← h4.1]; exact ⟨h1, h2⟩
  · have e' : l ++ [y] = (dn ++ z :: r) ++ [w] := by rw [e]; simp
    have h4 := List.append_inj' e' rfl
    exact h dn z r h4.1
theorem check_loop (l : List GMove) (hl : l.length ≤ 1000) (h : Rt l) : ∀ (ys dn : List GMove), l = dn ++ ys → swimmer_CheckMoves_l1 l (some 0) ys dn.length = some 0 := by
  intro ys
  induction ys with
  | nil => intro dn _; rfl
  | cons y ys ih =>
    intro dn h1
    have hr := ih (dn ++ [y]) (by rw [h1]; simp)
    rw [List.length_append, List.length_singleton] at hr
    obtain ⟨⟨k1, k2, k3, k4⟩, k5⟩ := h dn y ys h1
    have hdl : dn.length ≤ 1000 := by rw [h1] at hl; simp at hl; omega
    have hday : swimmer_isDay y.Day = true := by unfold swimmer_isDay words_Within; simp [k3, k4]
    rw [swimmer_CheckMoves_l1]
    simp only [join_eq, five_key k1, Option.bind_some, hday]
    rcases List.eq_nil_or_concat dn with rfl | ⟨d, p, rfl⟩
    · have hc : y.Club ≠ k_empty := k5
      simp [hc, clubs_key k2 hc]
      exact hr
    · simp only [List.concat_eq_append] at *
      have hlen : ((d ++ [p]).length : Int) = (d.length : Int) + 1 := by simp
      have hw : W (((d ++ [p]).length : Int) - 1) = (d.length : Int) := by rw [hlen, W_in (by omega) (by simp at hdl; omega)]; omega
      have hnp : nth l (d.length : Int) = p := by unfold nth; rw [h1]; simp
      have hin : inB (d.length : Int) l.length = true := by rw [inB_iff, h1]; simp; omega
      have hz : decide (((d ++ [p]).length : Int) = 0) = false := by rw [hlen]; simp; omega
      have hpos : decide (0 < ((d ++ [p]).length : Int)) = true := by rw [hlen]; simp
      have k5' : okAt (some p) y := by simpa using k5
      have hord : decide (0 ≤ cmp_Or_int [strings_Compare p.Who y.Who, cmp_Compare_int p.Day y.Day]) = false := by
        rw [orI, cmpInt]
        rcases k5' with ⟨q1, q2, q3⟩ | ⟨q1, q2, q3⟩
        · rw [q1]
          have : strings_Compare y.Who y.Who = 0 := cB_refl _
          rw [this]; simp [q2]
        · have q4 : strings_Compare p.Who y.Who < 0 := q2
          have : strings_Compare p.Who y.Who ≠ 0 := by omega
          simp [this]; omega
      simp only [hz, hpos, hw, chk_pos hin, hnp, hord, Bool.false_or, Bool.false_eq_true, if_false, if_true, Bool.not_not, Bool.true_and, Bool.not_true]
      rcases k5' with ⟨q1, q2, q3⟩ | ⟨q1, q2, q3⟩
      · by_cases hc : y.Club = k_empty
        · simp [q1, q3, hc]
          rw [hc] at q3; simp [q3]; simpa using hr
        · simp [q1, q3, hc, clubs_key k2 hc]; simpa using hr
      · simp [q1, q3, clubs_key k2 q3]; simpa using hr
theorem check_right {l : List GMove} (hl : l.length ≤ 1000) (h : Rt l) : swimmer_CheckMoves l = some 0 := by
  unfold swimmer_CheckMoves
  rw [if_neg (by simp; omega)]
  simp only [join_eq]
  exact check_loop l hl h l [] rfl
/-- Where the stream stands among the moves of one swimmer. -/
def Inv (x3 : List GMove) (y : ByteArray) (x5 : Int) (x6 : ByteArray) : Prop :=
  (x6 = k_empty ∧ ∀ p, x3.getLast? = some p → cB p.Who y < 0) ∨ (∃ p, x3.getLast? = some p ∧ p.Who = y ∧ p.Club = x6 ∧ p.Day < x5)
section
variable {L : List Int} (hL : LongL L)
include hL
theorem right_l2 (r2 : Int × Int) (hr : r2.1 ≤ 3) (y : ByteArray) (hy : y ∈ fiveN) (j : List GMove → Int → Option (List GMove × Int)) : ∀ (k m : Nat) (x3 : List GMove) (a x5 : Int) (x6 : ByteArray) (x7 : Int), 0 ≤ x7 → x7 ≤ 1000 → r2.1 - x7 ≤ (k : Int) → (k : Int) ≤ 3 → k < m → 0 ≤ a → a + 2 * k ≤ 1000000000 → x3.length + k ≤ 100000 →
    -100 ≤ x5 → x5 + 365 * k ≤ 3000 → Rt x3 → Inv x3 y x5 x6 →
    ∃ x b, Stream_RightMoves_l2 r2 L y j m x3 a x5 x6 x7 = j x b ∧ a ≤ b ∧ b ≤ a + 2 * k ∧ x.length ≤ x3.length + k ∧ Rt x ∧ (∀ p, x.getLast? = some p → p.Who = y ∨ x3.getLast? = some p)
  | k, 0, _, _, _, _, _, _, _, _, _, h, _, _, _, _, _, _, _ => absurd h (by omega)
  | k, m + 1, x3, a, x5, x6, x7, h1, h1', h2, h3, h4, h5, h6, h7, h8, h9, hR, hI => by
    rw [Stream_RightMoves_l2]
    by_cases hc : x7 < r2.1
    · rw [if_pos (decide_eq_true hc)]
      simp only [join_eq]
      obtain ⟨q, b, e, g1, g2, hq0⟩ := some_dr hL h5 (by omega) [k_blue, k_blue, k_red, k_empty] (by simp) (by simp)
      rw [e]; simp only [Option.bind_some]
      rw [W_in (n := x7 + 1) (by omega) (by omega)]
      cases k with
      | zero => omega
      | succ k =>
        by_cases hq : q = x6
        · rw [if_pos (decide_eq_true hq)]
          obtain ⟨x, c, r1, r2', r3, r4, r5, r6⟩ := right_l2 r2 hr y hy j k m x3 b x5 x6 (x7 + 1) (by omega) (by omega) (by omega) (by omega) (by omega) (by omega) (by omega) (by omega) h8 (by omega) hR hI
          exact ⟨x, c, r1, by omega, by push_cast; omega, by omega, r5, r6⟩
        · rw [if_neg (by simpa using hq), chk_pos (by unfold room; simp; omega)]
          obtain ⟨d, b2, e2, g3, g4, hd⟩ := pick_dr hL (a := b) (by omega) (by omega) [1, 30, 365] (by simp) (by simp)
          have hd' : d = 1 ∨ d = 30 ∨ d = 365 := by simpa using hd
          rw [e2]; simp only [Option.bind_some]
          have hqc : q ∈ clubsN := by
            simp only [clubsN, List.mem_cons, List.not_mem_nil, or_false] at hq0 ⊢
            rcases hq0 with h | h | h | h
            · exact .inl h
            · exact .inl h
            · exact .inr (.inl h)
            · exact .inr (.inr h)
          have hm : okM (GMove.mk y q x5) := ⟨hy, hqc, by show -40000 ≤ x5; omega, by show x5 ≤ 4000; omega⟩
          have ho : okAt x3.getLast? (GMove.mk y q x5) := by
            rcases hI with ⟨i1, i2⟩ | ⟨p, i1, i2, i3, i4⟩
            · have hqe : q ≠ k_empty := by rw [← i1]; exact hq
              cases hgl : x3.getLast? with
              | none => exact hqe
              | some p =>
                have h' := i2 p hgl
                refine .inr ⟨fun h => ?_, h', hqe⟩
                have h : p.Who = y := h
                rw [h, cB_refl] at h'
                exact absurd h' (by decide)
            · rw [i1]; exact .inl ⟨i2, i4, by rw [i3]; exact fun h => hq h.symm⟩
          have hR' := rt_snoc hR hm ho
          rw [W_in (n := x5 + d) (by omega) (by omega)]
          obtain ⟨x, c, r1, r2', r3, r4, r5, r6⟩ := right_l2 r2 hr y hy j k m (x3 ++ [GMove.mk y q x5]) b2 (x5 + d) q (x7 + 1) (by omega) (by omega) (by omega) (by omega) (by omega) (by omega) (by omega) (by simp; omega) (by omega) (by omega) hR' (.inr ⟨GMove.mk y q x5, by simp, rfl, rfl, by show x5 < x5 + d; omega⟩)
          refine ⟨x, c, r1, by omega, by push_cast; omega, by simp at r4; omega, r5, fun p hp => ?_⟩
          rcases r6 p hp with h | h
          · exact .inl h
          · have : GMove.mk y q x5 = p := by simpa using h
            exact .inl (by rw [← this])
    · rw [if_neg (by simpa using hc)]
      exact ⟨x3, a, rfl, by omega, by omega, by omega, hR, fun p h => .inr h⟩
theorem right_l1 : ∀ (ys : List ByteArray) (i : Nat) (x1 : List GMove) (a : Int), 0 ≤ a → a + 8 * ys.length ≤ 100000000 → x1.length + 3 * ys.length ≤ 10000 → (∀ y ∈ ys, y ∈ fiveN) → ys.Pairwise (fun s t => cB s t < 0) → Rt x1 → (∀ p, x1.getLast? = some p → ∀ y ∈ ys, cB p.Who y < 0) →
    ∃ x b, Stream_RightMoves_l1 L (fun x a => some (x, a)) ys i x1 a = some (x, b) ∧ a ≤ b ∧ b ≤ a + 8 * ys.length ∧ x.length ≤ x1.length + 3 * ys.length ∧ Rt x
  | [], i, x1, a, _, _, _, _, _, hR, _ => ⟨x1, a, rfl, Int.le_refl _, by simp, by simp, hR⟩
  | y :: ys, i, x1, a, h0, h1, h2, h3, h4, hR, h5 => by
    rw [Stream_RightMoves_l1]
    simp only [join_eq, List.length_cons] at h1 h2 ⊢
    obtain ⟨d, b, e, g1, g2, hd⟩ := pick_dr hL h0 (by omega) [(-100), 0, 50] (by simp) (by simp)
    have hd' : d = -100 ∨ d = 0 ∨ d = 50 := by simpa using hd
    rw [e]; simp only [Option.bind_some]
    obtain ⟨n, b2, e2, g3, g4, g5, g6⟩ := range_dr hL (a := b) (by omega) (by omega) 0 3 (by omega) (by omega) (by omega)
    rw [e2]; simp only [Option.bind_some]
    rw [List.pairwise_cons] at h4
    obtain ⟨x, c, r1, r2, r3, r4, r5, r6⟩ := right_l2 hL (n, b2) (by simp only; omega) y (h3 y (by simp)) (fun x3 x4 => Stream_RightMoves_l1 L (fun x a => some (x, a)) ys (i + 1) x3 x4) n.toNat ((n - 0).toNat + 2) x1 b2 d k_empty 0 (by omega) (by omega) (by simp only; omega) (by omega) (by omega) (by omega) (by omega) (by omega) (by omega) (by omega) hR
      (.inl ⟨rfl, fun p hp => h5 p hp y (by simp)⟩)
    rw [r1]
    obtain ⟨x', c', e', g7, g8, g9, g10⟩ := right_l1 ys (i + 1) x c (by omega) (by omega) (by omega) (fun z hz => h3 z (by simp [hz])) h4.2 r5 (fun p hp z hz => by
      rcases r6 p hp with h | h
      · rw [h]; exact h4.1 z hz
      · exact h5 p h z (by simp [hz]))
    exact ⟨x', c', e', by omega, by omega, by omega, g10⟩
theorem right_dr {a : Int} (h0 : 0 ≤ a) (h1 : a ≤ 10000000) : Dr a 40 (fun x => x.length ≤ 15 ∧ Rt x) (Stream_RightMoves L a) := by
  unfold Stream_RightMoves
  simp only [join_eq]
  obtain ⟨x, c, e', g7, g8, g9, g10⟩ := right_l1 hL [k_ann, k_bea, k_cid, k_dan, k_eve] 0 [] a h0 (by simp; omega) (by simp) (fun y hy => hy) (by decide +kernel) rt_nil (by simp)
  exact ⟨x, c, e', g7, by simp at g8; omega, by simpa using g9, g10⟩
end
theorem club_of (who : ByteArray) (day : Int) : ∀ (l : List GMove) (i : Nat) (x : ByteArray), swimmer_clubAt_l1 who day (fun x => x) l i x ≠ x → ∃ m ∈ l, m.Who = who
  | [], _, x, h => (h rfl).elim
  | y :: l, i, x, h => by
    rw [swimmer_clubAt_l1] at h
    simp only [join_eq] at h
    by_cases hw : y.Who = who
    · exact ⟨y, by simp, hw⟩
    · simp only [hw, decide_false, Bool.false_and, Bool.false_eq_true, if_false] at h
      obtain ⟨m, h1, h2⟩ := club_of who day l (i + 1) x h
      exact ⟨m, by simp [h1], h2⟩
theorem members_in (l : List GMove) (hl : l.length ≤ 1000) (day : Int) (club : ByteArray) : ∀ (ys dn : List GMove) (x : List ByteArray), l = dn ++ ys → x.length ≤ dn.length →
    (∀ v ∈ x, swimmer_clubAt l v day = club) → (∀ m ∈ dn, swimmer_clubAt l m.Who day = club → m.Who ∈ x) →
    ∃ z, swimmer_Members_l1 l day club (fun x => some (x, 0)) ys dn.length x = some (z, 0) ∧ (∀ v ∈ z, swimmer_clubAt l v day = club) ∧ (∀ m ∈ l, swimmer_clubAt l m.Who day = club → m.Who ∈ z) := by
  intro ys
  induction ys with
  | nil => intro dn x h1 _ h3 h4; exact ⟨x, rfl, h3, by rw [h1, List.append_nil]; rw [h1, List.append_nil] at h4; exact h4⟩
  | cons y ys ih =>
    intro dn x h1 h2 h3 h4
    rw [swimmer_Members_l1]
    have hdl : dn.length ≤ 1000 := by rw [h1] at hl; simp at hl; omega
    simp only [join_eq]
    have yes : swimmer_clubAt l y.Who day = club → ∃ z, swimmer_Members_l1 l day club (fun x => some (x, 0)) ys (dn.length + 1) (x ++ [y.Who]) = some (z, 0) ∧ (∀ v ∈ z, swimmer_clubAt l v day = club) ∧ (∀ m ∈ l, swimmer_clubAt l m.Who day = club → m.Who ∈ z) := by
      intro hc
      have := ih (dn ++ [y]) (x ++ [y.Who]) (by rw [h1]; simp) (by simp; omega) (fun v hv => by
        rcases List.mem_append.1 hv with h | h
        · exact h3 v h
        · rw [List.mem_singleton] at h; rw [h]; exact hc) (fun m hm hmc => by
        rcases List.mem_append.1 hm with h | h
        · exact List.mem_append.2 (.inl (h4 m h hmc))
        · rw [List.mem_singleton] at h; subst h; simp)
      rwa [List.length_append, List.length_singleton] at this
    have no : (swimmer_clubAt l y.Who day = club → y.Who ∈ x) → ∃ z, swimmer_Members_l1 l day club (fun x => some (x, 0)) ys (dn.length + 1) x = some (z, 0) ∧ (∀ v ∈ z, swimmer_clubAt l v day = club) ∧ (∀ m ∈ l, swimmer_clubAt l m.Who day = club → m.Who ∈ z) := by
      intro hc
      have := ih (dn ++ [y]) x (by rw [h1]; simp) (by simp; omega) h3 (fun m hm hmc => by
        rcases List.mem_append.1 hm with h | h
        · exact h4 m h hmc
        · rw [List.mem_singleton] at h; subst h; exact hc hmc)
      rwa [List.length_append, List.length_singleton] at this
    have both : ∃ z, (if decide (swimmer_clubAt l y.Who day = club) = true then Chk (room x.length) (swimmer_Members_l1 l day club (fun x => some (x, 0)) ys (dn.length + 1) (x ++ [y.Who])) else swimmer_Members_l1 l day club (fun x => some (x, 0)) ys (dn.length + 1) x) = some (z, 0) ∧ (∀ v ∈ z, swimmer_clubAt l v day = club) ∧ (∀ m ∈ l, swimmer_clubAt l m.Who day = club → m.Who ∈ z) := by
      by_cases hc : swimmer_clubAt l y.Who day = club
      · rw [if_pos (decide_eq_true hc), chk_pos (by unfold room; simp; omega)]; exact yes hc
      · rw [if_neg (by simpa using hc)]; exact no fun h => (hc h).elim
    rcases List.eq_nil_or_concat dn with rfl | ⟨d, p, rfl⟩
    · simpa using both
    · simp only [List.concat_eq_append] at *
      have hlen : ((d ++ [p]).length : Int) = (d.length : Int) + 1 := by simp
      have hw : W (((d ++ [p]).length : Int) - 1) = (d.length : Int) := by rw [hlen, W_in (by omega) (by simp at hdl; omega)]; omega
      have hnp : nth l (d.length : Int) = p := by unfold nth; rw [h1]; simp
      have hi : inB (d.length : Int) l.length = true := by rw [inB_iff, h1]; simp; omega
      have hz : decide (((d ++ [p]).length : Int) = 0) = false := by rw [hlen]; simp; omega
      simp only [hz, hw, chk_pos hi, hnp, Bool.false_eq_true, if_false]
      by_cases hpw : p.Who = y.Who
      · have := no (fun h => by rw [← hpw]; exact h4 p (by simp) (by rw [hpw]; exact h))
        simpa [hpw] using this
      · simpa [hpw] using both
theorem mem_iff {l : List GMove} {z : List ByteArray} {day : Int} {club k : ByteArray} (hc : club ≠ k_empty) (h1 : ∀ v ∈ z, swimmer_clubAt l v day = club) (h2 : ∀ m ∈ l, swimmer_clubAt l m.Who day = club → m.Who ∈ z) :
    slices_Contains_string z k = decide (swimmer_clubAt l k day = club) := by
  rw [contains_str, Bool.eq_iff_iff, List.any_eq_true, decide_eq_true_eq]
  constructor
  · rintro ⟨v, hv, he⟩
    rw [of_decide_eq_true he]; exact h1 v hv
  · intro h
    obtain ⟨m, hm, hw⟩ := club_of k day l 0 k_empty (by
      have : swimmer_clubAt_l1 k day (fun x => x) l 0 k_empty = swimmer_clubAt l k day := rfl
      rw [this, h]; exact hc)
    exact ⟨k, by rw [← hw]; exact h2 m hm (by rw [hw]; exact h), by simp⟩
end Go.Proofs.YtmoigiaomdkfiaaDoor
