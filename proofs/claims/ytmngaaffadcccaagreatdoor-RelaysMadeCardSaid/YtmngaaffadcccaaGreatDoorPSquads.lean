/- Relay squads: the program's check is the reference's; what the stream gives. Conditions: the twins of package swimmer and of the reference. -/
import Derived.Test.YtmngaaffadcccaaGreatDoorPSwim
import Derived.Test.YtmngaaffadcccaaGreatDoorPLegs
namespace Go.Proofs.YtmngaaffadcccaaGreatDoor
open Go
theorem squads_l2 (y : GSquad) (e0 : Int) : ∀ (ys dn : List ByteArray), y.Who = dn ++ ys →
    ∃ e, swimmer_CheckSquads_l2 y (some e0) ys dn.length = some e ∧ tumbref2_SquadsFault_l2 y (some e0) ys dn.length = some e ∧ (e = 0 → e0 = 0)
  | [], dn, _ => ⟨e0, rfl, rfl, id⟩
  | z :: ys, dn, h => by
    rw [swimmer_CheckSquads_l2, tumbref2_SquadsFault_l2]
    obtain ⟨b, e1, e2⟩ := isKey_eq z
    rw [e1, e2]
    simp only [Option.bind_some]
    cases b with
    | false => exact ⟨5, rfl, rfl, fun h => by cases h⟩
    | true =>
      have hc : cutB 0 (dn.length : Int) y.Who.length = true := by rw [cutB_iff, h]; simp; omega
      simp only [Bool.not_true, Bool.false_eq_true, if_false, chk_pos hc]
      by_cases hin : slices_Contains_string (cut y.Who 0 (dn.length : Int)) z = true
      · rw [if_pos hin, if_pos hin]; exact ⟨6, rfl, rfl, fun h => by cases h⟩
      · rw [if_neg hin, if_neg hin]
        have := squads_l2 y e0 ys (dn ++ [z]) (by rw [h]; simp)
        rwa [List.length_append, List.length_singleton] at this
theorem squads_loop (l : List GSquad) (hl : l.length ≤ 200) : ∀ (ys dn : List GSquad) (last : ByteArray), l = dn ++ ys → (dn = [] → last = k_empty) → (∀ d x, dn = d ++ [x] → last = x.Key) →
    ∃ e, swimmer_CheckSquads_l1 l (some 0) ys dn.length = some e ∧ tumbref2_SquadsFault_l1 (some 0) ys dn.length last = some e ∧ (e = 0 → ∀ x ∈ ys, x.Who.length = 4)
  | [], dn, last, _, _, _ => ⟨0, rfl, rfl, fun _ x hx => by cases hx⟩
  | y :: ys, dn, last, h1, h2, h3 => by
    rw [swimmer_CheckSquads_l1, tumbref2_SquadsFault_l1]
    obtain ⟨b, e1, e2⟩ := isKey_eq y.Key
    obtain ⟨b2, e3, e4⟩ := isKey_eq y.Club
    obtain ⟨b3, e5, e6⟩ := isKey_eq y.Race
    rw [e1, e2, e3, e4, e5, e6]
    simp only [Option.bind_some, join_eq]
    cases b with
    | false => exact ⟨5, rfl, rfl, fun h => by cases h⟩
    | true =>
      cases b2 with
      | false => exact ⟨5, rfl, rfl, fun h => by cases h⟩
      | true =>
        cases b3 with
        | false => exact ⟨5, rfl, rfl, fun h => by cases h⟩
        | true =>
          have hk := key_size e2
          simp only [Bool.not_true, Bool.or_self, Bool.false_eq_true, if_false]
          obtain ⟨e0, q1, q2, q3⟩ := squads_loop l hl ys (dn ++ [y]) y.Key (by rw [h1]; simp) (fun h => by simp at h) (fun d x h => by have := List.append_inj' h rfl; simp at this; rw [this.2])
          rw [List.length_append, List.length_singleton] at q1 q2
          rw [q1, q2]
          obtain ⟨e, w1, w2, w3⟩ := squads_l2 y e0 y.Who [] rfl
          rw [List.length_nil] at w1 w2
          rw [w1, w2]
          have hend : ∃ e', (if (!decide ((y.Who.length : Int) = 4)) = true then some (3 : Int) else some e) = some e' ∧ (e' = 0 → ∀ x ∈ y :: ys, x.Who.length = 4) := by
            by_cases hf : (y.Who.length : Int) = 4
            · rw [if_neg (by simp [hf])]
              refine ⟨e, rfl, fun h x hx => ?_⟩
              rcases List.mem_cons.1 hx with rfl | hx
              · omega
              · exact q3 (w3 h) x hx
            · rw [if_pos (by simp [hf])]; exact ⟨3, rfl, fun h => by cases h⟩
          obtain ⟨e', t1, t2⟩ := hend
          rw [t1]
          rcases List.eq_nil_or_concat dn with rfl | ⟨d, x, rfl⟩
          · rw [h2 rfl, sless_empty]
            simp only [List.length_nil, Int.natCast_zero, Int.lt_irrefl, decide_false, Bool.false_eq_true, if_false, Bool.false_and, Bool.false_or, decide_eq_true_eq, not_empty hk]
            exact ⟨e', rfl, rfl, t2⟩
          · simp only [List.concat_eq_append] at *
            have hx : last = x.Key := h3 d x rfl
            have hlen : ((d ++ [x]).length : Int) = (d.length : Int) + 1 := by simp
            have hdl : d.length ≤ 200 := by rw [h1] at hl; simp at hl; omega
            have hw : W (((d ++ [x]).length : Int) - 1) = (d.length : Int) := by
              rw [hlen, show (d.length : Int) + 1 - 1 = (d.length : Int) by omega, W_in (by omega) (by omega)]
            have hn : nth l (d.length : Int) = x := by unfold nth; rw [h1]; simp
            have hin : inB (d.length : Int) l.length = true := by rw [inB_iff, h1]; simp; omega
            have hpos : decide (0 < ((d ++ [x]).length : Int)) = true := by rw [hlen]; simp
            rw [if_pos hpos, hw, chk_pos hin, hn, hpos, hx, Bool.true_and]
            cases hc : (Sless y.Key x.Key || decide (y.Key = x.Key)) with
            | true => simp only [if_true]; exact ⟨7, rfl, rfl, fun h => by cases h⟩
            | false => simp only [Bool.false_eq_true, if_false]; exact ⟨e', rfl, rfl, t2⟩
theorem squads_eq (l : List GSquad) (hl : l.length ≤ 200) : ∃ e, swimmer_CheckSquads l = some e ∧ tumbref2_SquadsFault l = some e ∧ (e = 0 → ∀ x ∈ l, x.Who.length = 4) := by
  unfold swimmer_CheckSquads tumbref2_SquadsFault
  rw [if_neg (by simp; omega), if_neg (by simp; omega)]
  simp only [join_eq]
  exact squads_loop l hl l [] k_empty rfl (fun _ => rfl) (fun d x h => by simp at h)
theorem order_l2 {L : List Int} (hL : LongL L) : ∀ (m : Nat) (x3 : List Int) (a x5 : Int), 0 ≤ a → a + x5 ≤ 1000000 → 0 ≤ x5 → x5 ≤ 5 → x5 < (m : Int) → x3.length = 6 → (∀ v ∈ x3, 0 ≤ v ∧ v < 6) →
    ∃ z b, Stream_Order_l2 L (fun x a => some (x, a)) m x3 a x5 = some (z, b) ∧ a ≤ b ∧ b ≤ a + x5 ∧ z.length = 6 ∧ ∀ v ∈ z, 0 ≤ v ∧ v < 6
  | 0, x3, a, x5, _, _, _, _, h, _, _ => by omega
  | m + 1, x3, a, x5, h0, h1, h2, h3, h4, h5, h6 => by
    rw [Stream_Order_l2]
    by_cases h : 0 < x5
    · rw [if_pos (decide_eq_true h), W_in (n := x5 + 1) (by omega) (by omega), W_in (n := x5 - 1) (by omega) (by omega)]
      obtain ⟨i, b, e, g1, g2, g3, g4⟩ := next_dr hL (a := a) h0 (by omega) (x5 + 1) (by omega)
      rw [e]; simp only [Option.bind_some]
      have hi : inB i x3.length = true := inB_iff.2 ⟨g3, by omega⟩
      have h5' : inB x5 x3.length = true := inB_iff.2 ⟨h2, by omega⟩
      rw [chk_pos hi, chk_pos h5', chk_pos h5', chk_pos (by rw [List.length_set]; exact hi)]
      obtain ⟨z, c, w1, w2, w3, w4, w5⟩ := order_l2 hL m ((x3.set x5.toNat (nth x3 i)).set i.toNat (nth x3 x5)) b (x5 - 1) (by omega) (by omega) (by omega) (by omega) (by omega) (by simpa using h5) (fun v hv => by
        rcases List.mem_or_eq_of_mem_set hv with hv | rfl
        · rcases List.mem_or_eq_of_mem_set hv with hv | rfl
          · exact h6 v hv
          · exact h6 _ (nth_mem hi)
        · exact h6 _ (nth_mem h5'))
      exact ⟨z, c, w1, by omega, by omega, w4, w5⟩
    · rw [if_neg (by simpa using h)]
      exact ⟨x3, a, rfl, by omega, by omega, h5, h6⟩
theorem order_dr {L : List Int} (hL : LongL L) {a : Int} (h0 : 0 ≤ a) (h1 : a ≤ 900000) : Dr a 5 (fun x => x.length = 6 ∧ ∀ v ∈ x, 0 ≤ v ∧ v < 6) (Stream_Order L a 6) := by
  obtain ⟨z, b, w1, w2, w3, w4, w5⟩ := order_l2 hL 7 [0, 1, 2, 3, 4, 5] a 5 h0 (by omega) (by omega) (by omega) (by omega) rfl (by decide)
  exact ⟨z, b, w1, w2, w3, w4, w5⟩
theorem squad_l1 (j : List ByteArray → Option (GSquad × Int)) : ∀ (ys : List Int) (i : Nat) (x1 : List ByteArray), (∀ v ∈ ys, 0 ≤ v ∧ v < 6) → x1.length + ys.length ≤ 1000 →
    ∃ z, Stream_Squad_l1 j ys i x1 = j z ∧ z.length = x1.length + ys.length
  | [], i, x1, _, _ => ⟨x1, rfl, rfl⟩
  | y :: ys, i, x1, h, hl => by
    rw [Stream_Squad_l1]
    simp only [List.length_cons] at hl
    have := h y List.mem_cons_self
    rw [chk_pos (inB_iff.2 ⟨this.1, by simp; omega⟩), chk_pos (by unfold room; simp; omega)]
    obtain ⟨z, w1, w2⟩ := squad_l1 j ys (i + 1) (x1 ++ [nth [k_ann, k_bea, k_cid, k_dan, k_eve, k_fox] y]) (fun v hv => h v (List.mem_cons_of_mem _ hv)) (by simp; omega)
    exact ⟨z, w1, by rw [w2]; simp; omega⟩
theorem squad_dr {L : List Int} (hL : LongL L) {a : Int} (h0 : 0 ≤ a) (h1 : a ≤ 100000) : Dr a 13 (fun _ => True) (Stream_Squad L a) := by
  unfold Stream_Squad
  obtain ⟨v1, b1, e1, g1, g2, _⟩ := some_dr hL (a := a) (by omega) (by omega) [k_ka, k_kb] (by simp) (by simp)
  rw [e1]; simp only [Option.bind_some]
  obtain ⟨v2, b2, e2, g3, g4, _⟩ := some_dr hL (a := b1) (by omega) (by omega) [k_blue, k_blue, k_red] (by simp) (by simp)
  rw [e2]; simp only [Option.bind_some]
  obtain ⟨v3, b3, e3, g5, g6, _⟩ := some_dr hL (a := b2) (by omega) (by omega) [k_ra, k_rb, k_rc, k_rz] (by simp) (by simp)
  rw [e3]; simp only [Option.bind_some]
  obtain ⟨o, b4, e4, g7, g8, g9, g10⟩ := order_dr hL (a := b3) (by omega) (by omega)
  have e4' : Stream_Order L b3 (([k_ann, k_bea, k_cid, k_dan, k_eve, k_fox] : List ByteArray).length : Int) = some (o, b4) := e4
  rw [e4']; simp only [Option.bind_some]
  rw [chk_pos (cutB_iff.2 (by omega)), join_eq]
  obtain ⟨w, w1, w2⟩ := squad_l1 (fun x1 => Option.bind (Stream_Flip L b4 12) fun r5 =>
    Join (fun (x2 : List ByteArray) (x3 : ByteArray) (x4 : ByteArray) (x5 : Int) => some ((GSquad.mk x3 x4 v3 x2), x5)) (fun j2 =>
      if r5.1 then
        Join (fun (x6 : ByteArray) (x7 : ByteArray) (x8 : Int) => Join (fun (x9 : List ByteArray) (x10 : Int) => j2 x9 x6 x7 x10) (fun j4 =>
          Option.bind (Stream_Range L x8 2 4) (fun r8 => Chk (cutB 0 r8.1 x1.length) (Option.bind (Stream_Some L r8.2 [k_ann, k_empty, k_zed]) (fun r9 => Chk (room (cut x1 (0 : Int) r8.1).length) (j4 ((cut x1 (0 : Int) r8.1) ++ [r9.1]) r9.2)))))) (fun j3 =>
        Option.bind (Stream_Some L r5.2 [v1, k_empty]) (fun r6 => Option.bind (Stream_Some L r6.2 [v2, k_empty, k_A]) (fun r7 => j3 r6.1 r7.1 r7.2)))
      else j2 x1 v1 v2 r5.2)) (cut o 0 4) 0 [] (fun v hv => g10 v (by unfold cut at hv; exact List.mem_of_mem_take (List.mem_of_mem_drop hv))) (by simp [cut]; omega)
  refine Eq.mpr (congrArg (Dr a 13 fun _ => True) w1) ?_
  have hw : w.length = 4 := by rw [w2]; simp [cut]; omega
  obtain ⟨f, b5, e5, g11, g12, _⟩ := flip_dr hL (a := b4) (by omega) (by omega) 12 (by omega)
  rw [e5]; simp only [Option.bind_some, join_eq]
  cases f with
  | false => rw [if_neg (by simp)]; exact ⟨_, _, rfl, by omega, by omega, trivial⟩
  | true =>
    rw [if_pos rfl]
    obtain ⟨v6, b6, e6, g13, g14, _⟩ := some_dr hL (a := b5) (by omega) (by omega) [v1, k_empty] (by simp) (by simp)
    rw [e6]; simp only [Option.bind_some]
    obtain ⟨v7, b7, e7, g15, g16, _⟩ := some_dr hL (a := b6) (by omega) (by omega) [v2, k_empty, k_A] (by simp) (by simp)
    rw [e7]; simp only [Option.bind_some]
    obtain ⟨v8, b8, e8, g17, g18, g19, g20⟩ := range_dr hL (a := b7) (by omega) (by omega) 2 4 (by omega) (by omega) (by omega)
    rw [e8]; simp only [Option.bind_some]
    rw [chk_pos (cutB_iff.2 (by omega))]
    obtain ⟨v9, b9, e9, g21, g22, _⟩ := some_dr hL (a := b8) (by omega) (by omega) [k_ann, k_empty, k_zed] (by simp) (by simp)
    rw [e9]; simp only [Option.bind_some]
    rw [chk_pos (by unfold room; simp [cut]; omega)]
    exact ⟨_, _, rfl, by omega, by omega, trivial⟩
end Go.Proofs.YtmngaaffadcccaaGreatDoor
