/- The plain law of RestsAddUp. No program stands here but its twins. -/
import Derived.Test.YtolmdpjkmjfjdaaGreatDoorPRests
import Derived.Test.YtolmdpjkmjfjdaaGreatDoorPCallsS
import Derived.Test.YtolmdpjkmjfjdaaGreatDoorPFits
import Derived.Test.YtolmdpjkmjfjdaaGreatDoorPHeatsDoNotOverlap
namespace Go.Proofs.YtolmdpjkmjfjdaaGreatDoor
open Go
/-! ### Right calls -/
theorem ltI_is (x y : GItem) : ltI x y = decide (cB x.Key y.Key < 0) := by
  unfold ltI Stream_RightCalls_c1
  rw [sless_cb]
  by_cases h : cB x.Key y.Key < 0 <;> simp [h]
theorem own_asc (items : List GItem) (hd : items.Pairwise fun a b => a.Key ≠ b.Key) : (isort ltI items).Pairwise fun a b => cB a.Key b.Key < 0 := by
  have h := isort_asc (lt := ltI) (fun x y z h1 h2 => by rw [ltI_is] at *; exact decide_eq_true (cB_trans (of_decide_eq_true h1) (of_decide_eq_true h2))) items (hd.imp_of_mem fun {a b} _ _ hne h => by
    rw [ltI_is] at *
    have h1 := of_decide_eq_false h
    have h2 := cB_flip a.Key b.Key
    have h3 : cB a.Key b.Key ≠ 0 := fun e => hne (cB_zero e)
    exact decide_eq_true (by omega))
  exact h.imp_of_mem fun {a b} _ _ h => by rw [ltI_is] at h; exact of_decide_eq_true h
def CGood (items : List GItem) (c : GCall) : Prop := ∃ y ∈ items, c.Item = y.Key ∧ 1 ≤ c.Heat ∧ c.Heat ≤ y.Heats
section
variable {L : List Int} (hL : LongL L)
include hL
theorem right_2 (items : List GItem) (w : ByteArray) (j : List GCall → Int → Option (List GCall × Int)) : ∀ (ys : List GItem) (i : Nat) (x : List GCall) (a : Int), 0 ≤ a → a + 2 * ys.length ≤ 100000000 → x.length + ys.length ≤ 10000 → (∀ y ∈ ys, y ∈ items ∧ 1 ≤ y.Heats) → (ys.Pairwise fun a b => cB a.Key b.Key < 0) →
    ∃ z b, Stream_RightCalls_l2 L w j ys i x a = j (x ++ z) b ∧ a ≤ b ∧ b ≤ a + 2 * ys.length ∧ z.length ≤ ys.length ∧ (∀ c ∈ z, c.Who = w ∧ CGood items c ∧ ∃ y ∈ ys, c.Item = y.Key) ∧ z.Pairwise fun a b => cC a b < 0
  | [], i, x, a, _, _, _, _, _ => ⟨[], a, by rw [List.append_nil]; rfl, by omega, by simp, by simp, (fun _ h => by cases h), List.Pairwise.nil⟩
  | y :: ys, i, x, a, h1, h2, h3, h4, h5 => by
    simp only [List.length_cons] at h2 h3 ⊢
    rw [List.pairwise_cons] at h5
    rw [Stream_RightCalls_l2]
    simp only [joinR]
    obtain ⟨f, b1, e1, g1, g2, _⟩ := flip_dr hL (a := a) h1 (by omega) 2 (by omega)
    rw [e1]; simp only [Option.bind_some]
    cases hc : (f && decide (0 < y.Heats)) with
    | true =>
      rw [if_pos rfl]
      obtain ⟨h, b2, e2, g3, g4, g5, g6⟩ := range_dr hL (a := b1) (by omega) (by omega) 1 (imin y.Heats 3) (by omega) (by omega) (by have := imin3 y.Heats; omega)
      rw [e2]; simp only [Option.bind_some]
      rw [chkT (by unfold room; simp; omega)]
      obtain ⟨z, b, r1, r2, r3, r4, r5, r6⟩ := right_2 items w j ys (i + 1) (x ++ [GCall.mk w y.Key h]) b2 (by omega) (by omega) (by simp; omega) (fun z hz => h4 z (List.mem_cons_of_mem _ hz)) h5.2
      obtain ⟨hy1, hy2⟩ := h4 y (by simp)
      have hh : h ≤ y.Heats := by
        rcases g6 with g6 | g6
        · unfold imin at g6
          split at g6 <;> omega
        · omega
      refine ⟨GCall.mk w y.Key h :: z, b, by rw [r1]; simp, by omega, by omega, by simp; omega, fun c hc => ?_, List.pairwise_cons.2 ⟨fun c hc => ?_, r6⟩⟩
      · rcases List.mem_cons.1 hc with rfl | hc
        · exact ⟨rfl, ⟨y, hy1, rfl, g5, hh⟩, y, by simp, rfl⟩
        · obtain ⟨q1, q2, q, q3, q4⟩ := r5 c hc
          exact ⟨q1, q2, q, List.mem_cons_of_mem _ q3, q4⟩
      · obtain ⟨q1, _, q, q3, q4⟩ := r5 c hc
        rw [cC_neg]
        refine .inr ⟨q1.symm, .inl ?_⟩
        show cB y.Key c.Item < 0
        rw [q4]
        exact h5.1 q q3
    | false =>
      rw [if_neg (by simp)]
      obtain ⟨z, b, r1, r2, r3, r4, r5, r6⟩ := right_2 items w j ys (i + 1) x b1 (by omega) (by omega) (by omega) (fun z hz => h4 z (List.mem_cons_of_mem _ hz)) h5.2
      exact ⟨z, b, r1, by omega, by omega, by omega, fun c hc => by obtain ⟨q1, q2, q, q3, q4⟩ := r5 c hc; exact ⟨q1, q2, q, List.mem_cons_of_mem _ q3, q4⟩, r6⟩
theorem right_1 (items : List GItem) (hi : items.length ≤ 5) (hh : ∀ y ∈ items, 1 ≤ y.Heats) (hd : items.Pairwise fun a b => a.Key ≠ b.Key) : ∀ (ws : List ByteArray) (i : Nat) (x : List GCall) (a : Int), 0 ≤ a → a + 10 * ws.length ≤ 10000000 → x.length + 5 * ws.length ≤ 1000 → (ws.Pairwise fun a b => cB a b < 0) →
    ∃ z b, Stream_RightCalls_l1 items L (fun x a => some (x, a)) ws i x a = some (x ++ z, b) ∧ a ≤ b ∧ b ≤ a + 10 * ws.length ∧ z.length ≤ 5 * ws.length ∧ (∀ c ∈ z, c.Who ∈ ws ∧ CGood items c) ∧ (z.Pairwise fun a b => cC a b < 0) ∧ ∀ who, (z.filter fun c => decide (c.Who = who)).length ≤ 5 * (ws.filter fun w => decide (w = who)).length
  | [], i, x, a, _, _, _, _ => ⟨[], a, by rw [List.append_nil]; rfl, by omega, by simp, by simp, (fun _ h => by cases h), List.Pairwise.nil, fun _ => by simp⟩
  | w :: ws, i, x, a, h1, h2, h3, h4 => by
    simp only [List.length_cons] at h2 h3 ⊢
    rw [List.pairwise_cons] at h4
    rw [Stream_RightCalls_l1]
    unfold slices_Clone_Item
    rw [chkT (by simp; omega)]
    simp only [Option.bind_some, List.nil_append]
    rw [sortI_is items (by omega)]
    simp only [Option.bind_some, joinR]
    have hil := isort_len' ltI items
    obtain ⟨z1, b1, e1, g1, g2, g3, g4, g4'⟩ := right_2 hL items w (fun (x3 : List GCall) (x4 : Int) => Stream_RightCalls_l1 items L (fun x a => some (x, a)) ws (i + 1) x3 x4) (isort ltI items) 0 x a h1 (by omega) (by omega) (fun y hy => ⟨(isort_mem _ _ _).1 hy, hh y ((isort_mem _ _ _).1 hy)⟩) (own_asc items hd)
    rw [e1]
    obtain ⟨z2, b2, e2, g5, g6, g7, g8, g9, g10⟩ := right_1 items hi hh hd ws (i + 1) (x ++ z1) b1 (by omega) (by omega) (by rw [List.length_append]; omega) h4.2
    refine ⟨z1 ++ z2, b2, by rw [e2]; simp, by omega, by omega, by rw [List.length_append]; omega, fun c hc => ?_, List.pairwise_append.2 ⟨g4', g9, fun p hp q hq => ?_⟩, fun who => ?_⟩
    · rcases List.mem_append.1 hc with hc | hc
      · obtain ⟨q1, q2, _⟩ := g4 c hc
        exact ⟨by rw [q1]; simp, q2⟩
      · obtain ⟨q1, q2⟩ := g8 c hc
        exact ⟨List.mem_cons_of_mem _ q1, q2⟩
    · rw [cC_neg]
      refine .inl ?_
      rw [(g4 p hp).1]
      exact h4.1 _ (g8 q hq).1
    · have h5 := g10 who
      rw [List.filter_append, List.length_append, List.filter_cons]
      by_cases hw : w = who
      · have h6 := List.length_filter_le (fun c : GCall => decide (c.Who = who)) z1
        rw [if_pos (decide_eq_true hw), List.length_cons]
        omega
      · have h6 : (z1.filter fun c => decide (c.Who = who)) = [] := List.filter_eq_nil_iff.2 fun c hc => by rw [(g4 c hc).1]; simpa using hw
        rw [if_neg (by simpa using hw), h6, List.length_nil]
        omega
theorem right_dr {a : Int} (h0 : 0 ≤ a) (h1 : a ≤ 1000000) (items : List GItem) (hi : items.length ≤ 5) (hh : ∀ y ∈ items, 1 ≤ y.Heats) (hd : items.Pairwise fun a b => a.Key ≠ b.Key) :
    Dr a 30 (fun x => x.length ≤ 15 ∧ (∀ c ∈ x, c.Who ∈ [k_ann, k_bea, k_cid] ∧ CGood items c) ∧ (x.Pairwise fun a b => cC a b < 0) ∧ ∀ who, (x.filter fun c => decide (c.Who = who)).length ≤ 12) (Stream_RightCalls L a items) := by
  unfold Stream_RightCalls
  rw [joinR]
  obtain ⟨z, b, e, g1, g2, g3, g4, g5, g6⟩ := right_1 hL items hi hh hd [k_ann, k_bea, k_cid] 0 [] a h0 (by simp; omega) (by simp) (by decide +kernel)
  rw [List.nil_append] at e
  exact ⟨z, b, e, g1, by simp at g2; omega, by simp at g3; omega, g4, g5, fun who => by have := g6 who; have := one_name who; omega⟩
end
/-! ### They pass the check -/
theorem ixN_of : ∀ {l : List GItem} {y : GItem}, y ∈ l → (l.Pairwise fun a b => a.Key ≠ b.Key) → ∃ k, ixN l y.Key = some k ∧ l[k]? = some y
  | [], _, h, _ => by cases h
  | x :: xs, y, h, hd => by
    rw [List.pairwise_cons] at hd
    rcases List.mem_cons.1 h with rfl | h
    · exact ⟨0, by rw [ixN, if_pos rfl], rfl⟩
    · obtain ⟨k, h1, h2⟩ := ixN_of h hd.2
      exact ⟨k + 1, by rw [ixN, if_neg (hd.1 y h), h1]; rfl, by simpa using h2⟩
theorem names_ok {s : ByteArray} (h : s ∈ [k_ann, k_bea, k_cid]) : words_IsKey s = some true := by
  simp only [List.mem_cons, List.not_mem_nil, or_false] at h
  rcases h with rfl | rfl | rfl <;> decide +kernel
theorem cadj_of {l : List GCall} (h : l.Pairwise fun a b => cC a b < 0) : CAdj l := by
  intro dn p q ys e
  rw [e, List.pairwise_append, List.pairwise_cons] at h
  exact h.2.1.1 q (by simp)
theorem pass_l (items : List GItem) (hi : items.length ≤ 100) (l : List GCall) (hl : l.length ≤ 2000) (hk : ∀ c ∈ l, words_IsKey c.Who = some true) (hcv : ∀ c ∈ l, ∃ k y, CV items c k y) (ha : CAdj l) : ∀ (ys dn : List GCall), l = dn ++ ys → session_CheckSwims_l1 items l (some 0) ys dn.length = some 0
  | [], _, _ => rfl
  | p :: ys, dn, e => by
    have hlen : l.length = dn.length + (ys.length + 1) := by rw [e]; simp
    have hp : p ∈ l := by rw [e]; simp
    obtain ⟨k, y, h⟩ := hcv p hp
    have hn : nth items (k : Int) = y := nth_get h.get
    have hkl := ixN_lt h.ix
    have hix : session_itemAt items p.Item = (k : Int) := by rw [itemAtP]; unfold ixI; rw [h.ix]
    have hin : words_Within p.Heat 1 y.Heats = true := by
      have := h.h1; have := h.h2
      unfold words_Within
      simp only [Bool.and_eq_true, decide_eq_true_eq]
      omega
    have ih := pass_l items hi l hl hk hcv ha ys (dn ++ [p]) (by rw [e]; simp)
    rw [List.length_append, List.length_singleton] at ih
    rw [session_CheckSwims_l1, hk p hp]
    simp only [Option.bind_some, Bool.not_true, Bool.false_eq_true, if_false, joinR]
    rw [hix, if_neg (by simp), chkT (inB_iff.2 ⟨by omega, by omega⟩), hn, hin, ih]
    simp only [Bool.not_true, Bool.false_eq_true, if_false]
    rcases List.eq_nil_or_concat dn with hd | ⟨d, q, hd⟩
    · rw [hd]; simp
    · rw [List.concat_eq_append] at hd
      have hdl : dn.length = d.length + 1 := by rw [hd]; simp
      have hnq : nth l (W ((dn.length : Int) - 1)) = q := by
        rw [W_in (by omega) (by omega), e, hd]
        have : d ++ [q] ++ p :: ys = d ++ q :: (p :: ys) := by simp
        rw [this]
        exact nth_mid _ _ _ (by simp)
      have hlt := ha d q p ys (by rw [e, hd]; simp)
      rw [if_pos (decide_eq_true (by omega)), chkT (inB_iff.2 (by rw [W_in (by omega) (by omega)]; omega)), hnq, compareCalls_is, decide_eq_false (show ¬ 0 ≤ cC q p by omega)]
      simp
theorem pass (items : List GItem) (hc : session_CheckItems items = some 0) (hi : items.length ≤ 100) (l : List GCall) (hl : l.length ≤ 2000) (hk : ∀ c ∈ l, words_IsKey c.Who = some true) (hcv : ∀ c ∈ l, ∃ k y, CV items c k y) (ha : CAdj l) : session_CheckSwims items l = some 0 := by
  unfold session_CheckSwims
  rw [hc]
  simp only [Option.bind_some, decide_true, Bool.not_true, Bool.false_eq_true, if_false]
  rw [if_neg (by simp; omega), joinR]
  exact pass_l items hi l hl hk hcv ha l [] rfl
/-! ### When it is over -/
theorem nt_le : ∀ (l : List GItem) (t : Int), (∀ x ∈ l, Good x) → nt l t ≤ t + l.length * 500000000
  | [], t, _ => by simp [nt]
  | y :: ys, t, hg => by
    have hy := hg y (by simp)
    have h1 := endH_bounds y hy y.Heats.toNat t
    have h2 := nt_le ys (endH y y.Heats.toNat t + y.Break) fun x hx => hg x (List.mem_cons_of_mem _ hx)
    unfold Good at hy
    rw [nt]
    simp only [List.length_cons]
    push_cast
    omega
theorem begin_ok (l : List GItem) (t : Int) (hg : ∀ x ∈ l, Good x) (hl : l.length ≤ 5) (h0 : 0 ≤ t) (h1 : t ≤ 1000) : session_begin l t = some (tt l t, 0) := by
  unfold session_begin
  have hm : words_IsMoment t = true := by
    unfold words_IsMoment
    simp only [Bool.and_eq_true, decide_eq_true_eq]
    omega
  have hlen := tt_len l t hg
  rw [hm, timetable_eq l t hg (by omega) h0 (by omega)]
  simp only [Option.bind_some, Bool.not_true, Bool.false_eq_true, if_false]
  rw [end_eq _ _ (by omega)]
  simp only [Option.bind_some]
  have h2 := (last_le_nt l t hg).2
  have h3 := nt_le l t hg
  rw [if_neg (by simp; omega)]
/-! ### Sums -/
def dur : List GSlot → Int
  | [] => 0
  | s :: r => s.Time.To - s.Time.From + dur r
def lng (who : ByteArray) : List GRest → Int
  | [] => 0
  | x :: r => (if x.Who = who then x.Long else 0) + lng who r
theorem W_addl (x y : Int) : W (W x + y) = W (x + y) := by rw [Int.add_comm, W_addr, Int.add_comm]
theorem sum_2 (j : Int → Option Bool) : ∀ (ys : List GSlot) (i : Nat) (a : Int), tumbkeep2_RestsAddUp_l2 j ys i (W a) = j (W (a + dur ys))
  | [], _, a => by simp [tumbkeep2_RestsAddUp_l2, dur]
  | y :: ys, i, a => by
    rw [tumbkeep2_RestsAddUp_l2, W_addr, W_addl, sum_2 j ys (i + 1) _, dur]
    congr 2
    omega
theorem sum_3 (who : ByteArray) (j : Int → Option Bool) : ∀ (ys : List GRest) (i : Nat) (a : Int), tumbkeep2_RestsAddUp_l3 who j ys i (W a) = j (W (a + lng who ys))
  | [], _, a => by simp [tumbkeep2_RestsAddUp_l3, lng]
  | y :: ys, i, a => by
    rw [tumbkeep2_RestsAddUp_l3]
    simp only [joinR]
    by_cases h : y.Who = who
    · rw [if_pos (decide_eq_true h), W_addl, sum_3 who j ys (i + 1) _, lng, if_pos h]
      congr 2
      omega
    · rw [if_neg (by simpa using h), sum_3 who j ys (i + 1) _, lng, if_neg h]
      congr 2
      omega
theorem lng_app (who : ByteArray) : ∀ a b : List GRest, lng who (a ++ b) = lng who a + lng who b
  | [], b => by simp [lng]
  | x :: a, b => by rw [List.cons_append, lng, lng, lng_app who a b]; omega
theorem pr_who (who : ByteArray) : ∀ (r : List GSlot) (p : GSlot), ∀ x ∈ pr who p r, x.Who = who
  | [], _, x, h => by cases h
  | s :: r, p, x, h => by
    rcases List.mem_cons.1 h with rfl | h
    · rfl
    · exact pr_who who r s x h
theorem prs_who (who : ByteArray) (m : List GSlot) : ∀ x ∈ prs who m, x.Who = who := by
  cases m with
  | nil => intro x h; cases h
  | cons p r => exact pr_who who r p
theorem lng_no (who : ByteArray) : ∀ l : List GRest, (∀ x ∈ l, x.Who ≠ who) → lng who l = 0
  | [], _ => rfl
  | x :: l, h => by rw [lng, if_neg (h x (by simp)), lng_no who l fun y hy => h y (List.mem_cons_of_mem _ hy)]; rfl
/-- The end of the last. -/
def lastT (p : GSlot) : List GSlot → GSlot
  | [] => p
  | s :: r => lastT s r
theorem tele (who : ByteArray) : ∀ (r : List GSlot) (p : GSlot) (a : Int), W (a + (p.Time.To - p.Time.From + dur r) + lng who (pr who p r)) = W (a + ((lastT p r).Time.To - p.Time.From))
  | [], p, a => by simp [dur, pr, lng, lastT]
  | s :: r, p, a => by
    rw [dur, pr, lng, if_pos rfl, lastT]
    have e1 : a + (p.Time.To - p.Time.From + (s.Time.To - s.Time.From + dur r)) + (W (s.Time.From - p.Time.To) + lng who (pr who s r)) = (a + (p.Time.To - p.Time.From) + (s.Time.To - s.Time.From + dur r) + lng who (pr who s r)) + W (s.Time.From - p.Time.To) := by omega
    rw [e1, W_addr]
    have ih := tele who r s (a + (p.Time.To - p.Time.From) + (s.Time.From - p.Time.To))
    have e2 : a + (p.Time.To - p.Time.From) + (s.Time.To - s.Time.From + dur r) + lng who (pr who s r) + (s.Time.From - p.Time.To) = a + (p.Time.To - p.Time.From) + (s.Time.From - p.Time.To) + (s.Time.To - s.Time.From + dur r) + lng who (pr who s r) := by omega
    rw [e2, ih]
    congr 1
    omega
theorem lastT_nth : ∀ (r : List GSlot) (p : GSlot), nth (p :: r) (((p :: r).length : Int) - 1) = lastT p r
  | [], p => rfl
  | s :: r, p => by
    have ih := lastT_nth r s
    have e1 : ((p :: s :: r).length : Int) - 1 = (((s :: r).length : Nat) : Int) := by simp
    have e2 : ((s :: r).length : Int) - 1 = ((r.length : Nat) : Int) := by simp
    rw [e2] at ih
    rw [e1, lastT, ← ih]
    simp [nth]
/-- All rests of one swimmer: those of the one place where they stand. -/
theorem lng_all (T : List GSlot) (l : List GCall) (who : ByteArray) : ∀ ws : List ByteArray, ws.Nodup → (who ∈ ws → lng who (allR T l ws) = lng who (prs who (mine T l who))) ∧ (who ∉ ws → lng who (allR T l ws) = 0)
  | [], _ => ⟨(fun h => by cases h), fun _ => rfl⟩
  | w :: ws, h => by
    rw [List.nodup_cons] at h
    obtain ⟨ih1, ih2⟩ := lng_all T l who ws h.2
    have e : allR T l (w :: ws) = prs w (mine T l w) ++ allR T l ws := by simp [allR]
    rw [e, lng_app]
    by_cases hw : w = who
    · subst hw
      exact ⟨fun _ => by rw [ih2 h.1]; omega, fun hn => absurd (by simp) hn⟩
    · rw [lng_no who (prs w (mine T l w)) fun x hx he => hw ((prs_who w _ x hx).symm.trans he)]
      refine ⟨fun hm => ?_, fun hn => ?_⟩
      · rcases List.mem_cons.1 hm with h3 | h3
        · exact absurd h3.symm hw
        · rw [ih1 h3]; omega
      · rw [ih2 fun h3 => hn (List.mem_cons_of_mem _ h3)]; omega
theorem nbF_mem {α : Type} [DecidableEq α] : ∀ (r : List α) (p x : α), x ∈ nbF p r → x ∈ r
  | [], _, _, h => by cases h
  | y :: r, p, x, h => by
    unfold nbF at h
    split at h
    · exact List.mem_cons_of_mem _ (nbF_mem r y x h)
    · rcases List.mem_cons.1 h with rfl | h
      · simp
      · exact List.mem_cons_of_mem _ (nbF_mem r y x h)
theorem mem_nbF {α : Type} [DecidableEq α] : ∀ (r : List α) (p x : α), x ∈ r → x = p ∨ x ∈ nbF p r
  | [], _, _, h => by cases h
  | y :: r, p, x, h => by
    unfold nbF
    rcases List.mem_cons.1 h with rfl | h
    · split
      · rename_i e; exact .inl e
      · exact .inr (by simp)
    · rcases mem_nbF r y x h with rfl | h2
      · split
        · rename_i e; exact .inl e
        · exact .inr (by simp)
      · split
        · exact .inr h2
        · exact .inr (List.mem_cons_of_mem _ h2)
theorem nbF_up : ∀ (r : List ByteArray) (p : ByteArray), (p :: r).Pairwise leB → (p :: nbF p r).Pairwise fun a b => cB a b < 0
  | [], p, _ => by simp [nbF]
  | y :: r, p, h => by
    rw [List.pairwise_cons] at h
    have hy := h.1 y (by simp)
    have ih := nbF_up r y h.2
    unfold nbF
    by_cases e : y = p
    · rw [if_pos e]
      rw [e] at ih ⊢
      exact ih
    · rw [if_neg e]
      have h1 : cB p y < 0 := by
        rcases hy with h | h
        · exact h
        · exact absurd h.symm e
      refine List.pairwise_cons.2 ⟨fun z hz => ?_, ih⟩
      rcases List.mem_cons.1 hz with rfl | hz
      · exact h1
      · rw [List.pairwise_cons] at ih
        exact cB_trans h1 (ih.1 z hz)
theorem nb_nodup (l : List ByteArray) (h : l.Pairwise leB) : (nb l).Nodup := by
  cases l with
  | nil => simp [nb]
  | cons p r =>
    refine (nbF_up r p h).imp_of_mem fun {a b} _ _ hab e => ?_
    rw [e, cB_refl] at hab
    omega
theorem mem_nb (l : List ByteArray) (x : ByteArray) (h : x ∈ l) : x ∈ nb l := by
  cases l with
  | nil => cases h
  | cons p r =>
    rw [nb]
    rcases List.mem_cons.1 h with rfl | h
    · simp
    · rcases mem_nbF r p x h with rfl | h
      · simp
      · exact List.mem_cons_of_mem _ h
/-! ### The law -/
theorem kerrs_cons (a : Int) (l : List Int) : tumbkeep2_errs (a :: l) = if a ≠ 0 then a else tumbkeep2_errs l := by
  have hl : ∀ (l : List Int) (i j : Nat), tumbkeep2_errs_l1 0 l i = tumbkeep2_errs_l1 0 l j := by
    intro l
    induction l with
    | nil => intro _ _; rfl
    | cons x l ih =>
      intro i j
      rw [tumbkeep2_errs_l1, tumbkeep2_errs_l1, ih (i + 1) (j + 1)]
  unfold tumbkeep2_errs
  rw [joinR, joinR, tumbkeep2_errs_l1, hl l (0 + 1) 0]
  by_cases h : a = 0 <;> simp [h]
theorem kerrs_nil : tumbkeep2_errs [] = 0 := rfl
theorem filt_le (r : List GRest) (a b : Int) (h : a ≤ b) : (r.filter fun x => !decide (a ≤ x.Long)).length ≤ (r.filter fun x => !decide (b ≤ x.Long)).length := by
  have e : r.filter (fun x => !decide (a ≤ x.Long)) = (r.filter fun x => !decide (b ≤ x.Long)).filter fun x => !decide (a ≤ x.Long) := by
    rw [List.filter_filter]
    refine List.filter_congr fun x _ => ?_
    by_cases h1 : a ≤ x.Long
    · simp [h1]
    · have h2 : ¬ b ≤ x.Long := by omega
      simp [h1, h2]
  rw [e]
  exact List.length_filter_le _ _
theorem add_l (x : List GItem) (a1 : Int) (c : List GCall) (a2 t a3 : Int) (T : List GSlot) (hT : T.length ≤ 10000) (RR : List GRest) (e : Int) (j : Option Bool) (hC : ∀ w ∈ [k_ann, k_bea, k_cid], session_Calls x c w t = some (mine T c w, 0))
    (hS : ∀ w p r, mine T c w = p :: r → lng w RR = lng w (pr w p r)) : ∀ (ws : List ByteArray) (i : Nat), (∀ w ∈ ws, w ∈ [k_ann, k_bea, k_cid]) → tumbkeep2_RestsAddUp_l1 (x, a1) (c, a2) (t, a3) (RR, e) j ws i = j
  | [], _, _ => rfl
  | w :: ws, i, h => by
    have ih := add_l x a1 c a2 t a3 T hT RR e j hC hS ws (i + 1) fun v hv => h v (List.mem_cons_of_mem _ hv)
    have hml := mine_len T c w
    have hsw := hS w
    rw [tumbkeep2_RestsAddUp_l1, hC w (h w (by simp))]
    simp only [Option.bind_some, decide_true, Bool.not_true, Bool.false_eq_true, if_false, joinR]
    rw [ih]
    generalize mine T c w = m at hml hsw
    have h0 : (0 : Int) = W 0 := rfl
    rw [h0, sum_2, ← h0, sum_3]
    cases m with
    | nil => simp
    | cons p r =>
      have hin : inB (W (((p :: r).length : Int) - 1)) (p :: r).length = true := by
        rw [W_in (by simp only [List.length_cons]; omega) (by simp only [List.length_cons] at hml ⊢; omega)]
        exact inB_iff.2 (by simp; omega)
      have hn : nth (p :: r) (W (((p :: r).length : Int) - 1)) = lastT p r := by
        rw [W_in (by simp only [List.length_cons]; omega) (by simp only [List.length_cons] at hml ⊢; omega)]
        exact lastT_nth r p
      have hn0 : nth (p :: r) 0 = p := rfl
      have ht := tele w r p 0
      rw [hsw p r rfl, dur, hn, hn0, chkT hin, chkT (inB_iff.2 (by simp)), ht, decide_eq_true (show 0 < ((p :: r).length : Int) by simp)]
      rw [show (0 : Int) + ((lastT p r).Time.To - p.Time.From) = (lastT p r).Time.To - p.Time.From by omega]
      simp
theorem plain_RestsAddUp (l : List Int) (hl : l.length ≤ 9223372036854775807) : tumbkeep2_RestsAddUp l = some true := by
  have hL : LongL l := by unfold LongL; omega
  obtain ⟨x, a1, e1, p1, q1, hx5, hit, hd⟩ := right_items_dr hL (a := 0) (by omega) (by omega)
  have hg : ∀ z ∈ x, Good z := fun z hz => (hit z hz).1
  obtain ⟨c, a2, e2, p2, q2, hc15, hcw, hcp, hcn⟩ := right_dr hL (a := a1) (by omega) (by omega) x hx5 (fun y hy => by have := hg y hy; unfold Good at this; omega) hd
  obtain ⟨t, a3, e3, p3, q3, t0, t1⟩ := range_dr hL (a := a2) (by omega) (by omega) 0 1000 (by omega) (by omega) (by omega)
  obtain ⟨need, a4, e4, p4, q4, n0, n1⟩ := range_dr hL (a := a3) (by omega) (by omega) 0 300 (by omega) (by omega) (by omega)
  obtain ⟨more, a5, e5, p5, q5, m0, m1⟩ := range_dr hL (a := a4) (by omega) (by omega) 0 300 (by omega) (by omega) (by omega)
  have hci : session_CheckItems x = some 0 := by
    unfold session_CheckItems
    rw [if_neg (by simp; omega), joinR]
    exact items_chk x 0 [] (fun z hz => ⟨hit z hz, rfl⟩) hd
  have hcv : ∀ z ∈ c, ∃ k y, CV x z k y := fun z hz => by
    obtain ⟨_, y, hy, h1, h2, h3⟩ := hcw z hz
    obtain ⟨k, g1, g2⟩ := ixN_of hy hd
    exact ⟨k, y, by rw [h1]; exact g1, g2, h2, h3⟩
  have hadj := cadj_of hcp
  have hsw := pass x hci (by omega) c (by omega) (fun z hz => names_ok (hcw z hz).1) hcv hadj
  have hb := begin_ok x t hg hx5 t0 (by omega)
  have hlen := tt_len x t hg
  have hT : (tt x t).length ≤ 10000 := by omega
  have hcalls : ∀ w, session_calls (session_slots (tt x t)) c w = some (mine (tt x t) c w) := fun w => calls_is x hg hd c (by omega) hcv hadj t w (hcn w)
  have hC : ∀ w ∈ [k_ann, k_bea, k_cid], session_Calls x c w t = some (mine (tt x t) c w, 0) := fun w hw => by
    unfold session_Calls
    rw [hsw, names_ok hw, hb]
    simp only [Option.bind_some, decide_true, Bool.not_true, Bool.false_eq_true, if_false]
    rw [hcalls]
    rfl
  have hR : session_Rests x c t = some (allR (tt x t) c (nb (c.map (·.Who))), 0) := by
    unfold session_Rests
    rw [hsw, hb]
    simp only [Option.bind_some, decide_true, Bool.not_true, Bool.false_eq_true, if_false]
    rw [rests_is _ c (by omega) hT hcalls]
    rfl
  have hrl : (allR (tt x t) c (nb (c.map (·.Who)))).length < 1000000000 := by
    have h1 := allR_len (tt x t) c hT (nb (c.map (·.Who)))
    have h2 := nb_len (c.map (·.Who))
    rw [List.length_map] at h2
    omega
  have hle : (c.map (·.Who)).Pairwise leB := by
    rw [List.pairwise_map]
    refine hcp.imp_of_mem fun {a b} _ _ h => ?_
    rw [cC_neg] at h
    rcases h with h | ⟨h, _⟩
    · exact .inl h
    · exact .inr h
  have hnd := nb_nodup _ hle
  have hsum : ∀ w p r, mine (tt x t) c w = p :: r → lng w (allR (tt x t) c (nb (c.map (·.Who)))) = lng w (pr w p r) := fun w p r hm => by
    have hw : w ∈ nb (c.map (·.Who)) := by
      refine mem_nb _ _ ?_
      have hp : p ∈ mine (tt x t) c w := by rw [hm]; simp
      unfold mine at hp
      obtain ⟨z, hz, h1⟩ := List.any_eq_true.1 (List.mem_filter.1 hp).2
      have h1 := of_decide_eq_true h1
      exact List.mem_map.2 ⟨z, hz, by rw [← h1]⟩
    rw [(lng_all (tt x t) c w _ hnd).1 hw, hm]
    rfl
  generalize allR (tt x t) c (nb (c.map (·.Who))) = RR at hR hrl hsum
  have hS : ∀ n : Int, 0 ≤ n → n ≤ 3600000 → session_Short x c t n = some (RR.filter fun z => !decide (n ≤ z.Long), 0) := fun n g0 g1 => by
    unfold session_Short words_Within
    rw [hR]
    simp only [Option.bind_some, decide_true, Bool.not_true, Bool.false_eq_true, if_false]
    rw [decide_eq_true g0, decide_eq_true g1, short_is RR hrl]
    rfl
  unfold tumbkeep2_RestsAddUp
  rw [e1]; simp only [Option.bind_some]
  rw [e2]; simp only [Option.bind_some]
  rw [e3]; simp only [Option.bind_some]
  rw [e4]; simp only [Option.bind_some]
  rw [hR, hS need (by omega) (by omega)]; simp only [Option.bind_some]
  rw [e5]; simp only [Option.bind_some]
  rw [W_in (n := need + more) (by omega) (by omega), hS (need + more) (by omega) (by omega)]
  simp only [Option.bind_some, kerrs_cons, kerrs_nil, ready_ok, joinR]
  have f1 := filt_le RR need (need + more) (by omega)
  have f2 := List.length_filter_le (fun z : GRest => !decide (need + more ≤ z.Long)) RR
  rw [if_neg (by simp; omega)]
  exact add_l x a1 c a2 t a3 (tt x t) hT RR 0 (some true) hC hsum _ 0 (fun _ h => h)
end Go.Proofs.YtolmdpjkmjfjdaaGreatDoor
