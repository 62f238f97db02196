/- The plain law of EntriesKeepBounds. No program stands here but its twins. -/
import Derived.Test.YtdcmeoefpigcdaaGreatDoorPKeepBounds
import Derived.Test.YtdcmeoefpigcdaaGreatDoorPEntries
import Derived.Test.YtdcmeoefpigcdaaGreatDoorPEntryS
import Derived.Test.YtdcmeoefpigcdaaGreatDoorPBytes
import Derived.Test.YtdcmeoefpigcdaaGreatDoorPReady
namespace Go.Proofs.YtdcmeoefpigcdaaGreatDoor
open Go
theorem ck_of : ∀ (ys : List GEntry) (i : Nat) (m : List (GEntry × Bool)) (x : Bool), swimmer_CheckEntries_l1 (fun _ x2 => if x2 = true then some 6 else some 0) ys i m x = some 0 →
    (∀ e ∈ ys, words_IsKey e.Who = some true ∧ words_IsKey e.Race = some true) ∧ x = false ∧ (∀ e ∈ ys, mgetD m e false = false) ∧ ys.Nodup
  | [], i, m, x, h => by
    cases x
    · exact ⟨fun _ h => (by cases h), rfl, fun _ h => (by cases h), List.nodup_nil⟩
    · simp [swimmer_CheckEntries_l1] at h
  | y :: ys, i, m, x, h => by
    rw [swimmer_CheckEntries_l1] at h
    simp only [join_eq] at h
    cases h1 : words_IsKey y.Who with
    | none => rw [h1] at h; simp at h
    | some a =>
      rw [h1] at h
      cases a with
      | false => simp at h
      | true =>
        cases h2 : words_IsKey y.Race with
        | none => rw [h2] at h; simp at h
        | some c =>
          rw [h2] at h
          cases c with
          | false => simp at h
          | true =>
            simp only [Option.bind_some, Bool.not_true, Bool.or_self, Bool.false_eq_true, if_false] at h
            obtain ⟨g1, g2, g3, g4⟩ := ck_of ys (i + 1) _ _ h
            rw [Bool.or_eq_false_iff] at g2
            have hne : ∀ e ∈ ys, e ≠ y ∧ mgetD m e false = false := by
              intro e he
              have := g3 e he
              rw [mgetPut] at this
              by_cases hy : e = y
              · rw [if_pos hy] at this; cases this
              · rw [if_neg hy] at this; exact ⟨hy, this⟩
            refine ⟨fun e he => ?_, g2.1, fun e he => ?_, List.nodup_cons.2 ⟨fun hy => (hne y hy).1 rfl, g4⟩⟩
            · rcases List.mem_cons.1 he with rfl | he
              · exact ⟨h1, h2⟩
              · exact g1 e he
            · rcases List.mem_cons.1 he with rfl | he
              · exact g2.2
              · exact (hne e he).2
theorem ck_to : ∀ (ys : List GEntry) (i : Nat) (m : List (GEntry × Bool)), (∀ e ∈ ys, words_IsKey e.Who = some true ∧ words_IsKey e.Race = some true) → (∀ e ∈ ys, mgetD m e false = false) → ys.Nodup →
    swimmer_CheckEntries_l1 (fun _ x2 => if x2 = true then some 6 else some 0) ys i m false = some 0
  | [], i, m, _, _, _ => rfl
  | y :: ys, i, m, h1, h2, h3 => by
    rw [swimmer_CheckEntries_l1, (h1 y List.mem_cons_self).1, (h1 y List.mem_cons_self).2, h2 y List.mem_cons_self]
    rw [List.nodup_cons] at h3
    simp only [join_eq, Option.bind_some, Bool.not_true, Bool.or_self, Bool.false_eq_true, if_false]
    refine ck_to ys (i + 1) _ (fun e he => h1 e (List.mem_cons_of_mem _ he)) (fun e he => ?_) h3.2
    rw [mgetPut, if_neg (fun hy : e = y => h3.1 (by rw [← hy]; exact he))]
    exact h2 e (List.mem_cons_of_mem _ he)
theorem ck_sub {x y : List GEntry} (h : swimmer_CheckEntries x = some 0) (hs : List.Sublist y x) : swimmer_CheckEntries y = some 0 := by
  unfold swimmer_CheckEntries at h ⊢
  by_cases hl : 1500 < (x.length : Int)
  · rw [if_pos (decide_eq_true hl)] at h; simp at h
  · rw [if_neg (by simpa using hl)] at h
    have := hs.length_le
    rw [if_neg (by simp; omega)]
    simp only [join_eq] at h ⊢
    obtain ⟨g1, _, _, g4⟩ := ck_of x 0 [] false h
    exact ck_to y 0 [] (fun e he => g1 e (hs.subset he)) (fun _ _ => rfl) (g4.sublist hs)
theorem bounds_eq (b : GBounds) : swimmer_checkBounds b = tumbref2_BoundsFault b := by
  unfold swimmer_checkBounds tumbref2_BoundsFault
  have hw : words_Within = tumbref2_in := rfl
  have hd : swimmer_isDay b.Day = tumbref2_Day b.Day := rfl
  have hway : swimmer_isWay b.Age = tumbref2_in b.Age 1 2 := by
    unfold swimmer_isWay tumbref2_in
    by_cases g1 : b.Age = 1
    · simp [g1]
    · by_cases g2 : b.Age = 2
      · simp [g2]
      · have : (decide (1 ≤ b.Age) && decide (b.Age ≤ 2)) = false := by simp; omega
        simp [g1, g2, this]
  rw [hw, hd, hway]
theorem bounds_day {b : GBounds} (h : tumbref2_BoundsFault b = 0) : b.Day ≤ 4000 := by
  unfold tumbref2_BoundsFault at h
  split at h
  · cases h
  · split at h
    · cases h
    · split at h
      · cases h
      · rename_i h3
        unfold tumbref2_Day tumbref2_in at h3
        simp at h3
        omega
theorem key_six {s : ByteArray} (h : s ∈ sixN) : words_IsKey s = some true := by
  simp only [sixN, List.mem_cons, List.not_mem_nil, or_false] at h
  rcases h with rfl | rfl | rfl | rfl | rfl | rfl <;> decide +kernel
theorem key_race {s : ByteArray} (h : s ∈ [k_ra, k_rb, k_rc]) : words_IsKey s = some true := by
  simp only [List.mem_cons, List.not_mem_nil, or_false] at h
  rcases h with rfl | rfl | rfl <;> decide +kernel
/-- What comes later is greater. -/
theorem behind_not {s t : ByteArray} (h : cB s t < 0) : (Sless t s || decide (t = s)) = false := by
  rw [sless_cb, cB_flip s t]
  have hne : t ≠ s := fun e => by rw [e, cB_refl] at h; exact absurd h (by decide)
  simp [hne]; omega
/-! ### Swimmers -/
def SwOk (x : GSwimmer) : Prop := x.Key ∈ sixN ∧ (x.Sex = 1 ∨ x.Sex = 2) ∧ -40000 ≤ x.Born ∧ x.Born ≤ 4000
theorem chkSwim (l : List GSwimmer) (hl : l.length ≤ 500) (h : ∀ x ∈ l, SwOk x) (hp : l.Pairwise fun a b => cB a.Key b.Key < 0) : ∀ (ys dn : List GSwimmer), l = dn ++ ys → swimmer_CheckSwimmers_l1 l (some 0) ys dn.length = some 0 := by
  intro ys
  induction ys with
  | nil => intro dn _; rfl
  | cons y ys ih =>
    intro dn h1
    have hr := ih (dn ++ [y]) (by rw [h1]; simp)
    rw [List.length_append, List.length_singleton] at hr
    obtain ⟨k1, k2, k3, k4⟩ := h y (by rw [h1]; simp)
    have hdl : dn.length ≤ 500 := by rw [h1] at hl; simp at hl; omega
    have hc : (((!decide (y.Sex = 1)) && (!decide (y.Sex = 2))) || (!(swimmer_isDay y.Born))) = false := by
      unfold swimmer_isDay words_Within
      rcases k2 with g | g <;> simp [g, k3, k4]
    rw [swimmer_CheckSwimmers_l1, key_six k1]
    simp only [join_eq, Option.bind_some, Bool.not_true, Bool.false_eq_true, if_false, hc]
    rcases List.eq_nil_or_concat dn with rfl | ⟨d, p, rfl⟩
    · simpa using hr
    · simp only [List.concat_eq_append] at *
      have hlen : ((d ++ [p]).length : Int) = (d.length : Int) + 1 := by simp
      have hw : W (((d ++ [p]).length : Int) - 1) = (d.length : Int) := by rw [hlen, W_in (by omega) (by simp at hdl; omega)]; omega
      have hnp : nth l (d.length : Int) = p := by unfold nth; rw [h1]; simp
      have hin : inB (d.length : Int) l.length = true := by rw [inB_iff, h1]; simp; omega
      have hpos : decide (0 < ((d ++ [p]).length : Int)) = true := by rw [hlen]; simp
      have hpy : cB p.Key y.Key < 0 := by
        rw [h1, List.pairwise_append] at hp
        exact hp.2.2 p (by simp) y (by simp)
      simp only [hpos, hw, chk_pos hin, hnp, behind_not hpy, if_true, Bool.true_and, Bool.and_false, Bool.false_eq_true, if_false]
      exact hr
section
variable {L : List Int} (hL : LongL L)
include hL
theorem swim_l : ∀ (ys : List ByteArray) (i : Nat) (x1 : List GSwimmer) (a : Int), 0 ≤ a → a + 3 * ys.length ≤ 1000000000000 → x1.length + ys.length ≤ 1000 → (∀ y ∈ ys, y ∈ sixN) → ys.Pairwise (fun a b => cB a b < 0) → (∀ x ∈ x1, SwOk x ∧ ∀ y ∈ ys, cB x.Key y < 0) → x1.Pairwise (fun a b => cB a.Key b.Key < 0) →
    ∃ x b, Stream_RightSwimmers_l1 L (fun x a => some (x, a)) ys i x1 a = some (x, b) ∧ a ≤ b ∧ b ≤ a + 3 * ys.length ∧ x.length ≤ x1.length + ys.length ∧ (∀ z ∈ x, SwOk z) ∧ x.Pairwise (fun a b => cB a.Key b.Key < 0)
  | [], i, x1, a, _, _, _, _, _, h5, h6 => ⟨x1, a, rfl, Int.le_refl _, by simp, by simp, fun z hz => (h5 z hz).1, h6⟩
  | y :: ys, i, x1, a, h0, h1, h2, h3, h4, h5, h6 => by
    rw [Stream_RightSwimmers_l1]
    rw [List.pairwise_cons] at h4
    simp only [List.length_cons] at h1 h2 ⊢
    obtain ⟨f, b, e, g1, g2, _⟩ := flip_dr hL h0 (by omega) 8 (by omega)
    rw [e]; simp only [Option.bind_some, join_eq]
    cases f with
    | true =>
      rw [if_pos rfl]
      obtain ⟨x, c, e', g3, g4, g5, g6, g7⟩ := swim_l ys (i + 1) x1 b (by omega) (by omega) (by omega) (fun z hz => h3 z (List.mem_cons_of_mem _ hz)) h4.2 (fun x hx => ⟨(h5 x hx).1, fun z hz => (h5 x hx).2 z (List.mem_cons_of_mem _ hz)⟩) h6
      exact ⟨x, c, e', by omega, by omega, by omega, g6, g7⟩
    | false =>
      rw [if_neg (by simp)]
      obtain ⟨s, b2, e2, g3, g4, q2⟩ := pick_dr hL (a := b) (by omega) (by omega) [1, 2] (by simp) (by simp)
      rw [e2]; simp only [Option.bind_some]
      obtain ⟨t, b3, e3, g5, g6, q3⟩ := pick_dr hL (a := b2) (by omega) (by omega) [59, 0, (-1), (-307), (-3653), (-5000), 365, 1520] (by simp) (by simp)
      rw [e3]; simp only [Option.bind_some]
      rw [chk_pos (by unfold room; simp; omega)]
      simp only [List.mem_cons, List.not_mem_nil, or_false] at q2 q3
      have hok : SwOk (GSwimmer.mk y s t) := ⟨h3 y List.mem_cons_self, q2, by show -40000 ≤ t; omega, by show t ≤ 4000; omega⟩
      obtain ⟨x, c, e', g7, g8, g9, g10, g11⟩ := swim_l ys (i + 1) (x1 ++ [GSwimmer.mk y s t]) b3 (by omega) (by omega) (by simp; omega) (fun z hz => h3 z (List.mem_cons_of_mem _ hz)) h4.2
        (fun x hx => by
          rcases List.mem_append.1 hx with h | h
          · exact ⟨(h5 x h).1, fun z hz => (h5 x h).2 z (List.mem_cons_of_mem _ hz)⟩
          · rw [List.mem_singleton] at h; subst h; exact ⟨hok, fun z hz => h4.1 z hz⟩)
        (List.pairwise_append.2 ⟨h6, by simp, fun x hx z hz => by rw [List.mem_singleton] at hz; subst hz; exact (h5 x hx).2 y List.mem_cons_self⟩)
      simp only [List.length_append, List.length_singleton] at g9
      exact ⟨x, c, e', by omega, by omega, by omega, g10, g11⟩
theorem swim_dr {a : Int} (h0 : 0 ≤ a) (h1 : a ≤ 100000000) : Dr a 18 (fun x => x.length ≤ 6 ∧ (∀ z ∈ x, SwOk z) ∧ x.Pairwise (fun a b => cB a.Key b.Key < 0)) (Stream_RightSwimmers L a) := by
  unfold Stream_RightSwimmers
  simp only [join_eq]
  obtain ⟨x, c, e', g7, g8, g9, g10, g11⟩ := swim_l hL [k_ann, k_bea, k_cid, k_dan, k_eve, k_fox] 0 [] a h0 (by simp; omega) (by simp) (fun _ h => h) (by decide +kernel) (fun _ h => by cases h) List.Pairwise.nil
  exact ⟨x, c, e', g7, by simp at g8; omega, by simpa using g9, g10, g11⟩
/-! ### Races -/
theorem race_dr {a : Int} (h0 : 0 ≤ a) (h1 : a ≤ 100000000) (key : ByteArray) (hk : key ∈ [k_ra, k_rb, k_rc]) : Dr a 7 (fun r => r.Key = key ∧ timing_CheckRace r = some 0) (Stream_MeetRace L a key) := by
  unfold Stream_MeetRace
  obtain ⟨v1, b1, e1, g1, g2, q1⟩ := pick_dr hL h0 (by omega) [50, 100, 200] (by simp) (by simp)
  rw [e1]; simp only [Option.bind_some]
  obtain ⟨v2, b2, e2, g3, g4, q2⟩ := pick_dr hL (a := b1) (by omega) (by omega) [1, 2, 3, 4] (by simp) (by simp)
  rw [e2]; simp only [Option.bind_some]
  obtain ⟨v3, b3, e3, g5, g6, q3⟩ := pick_dr hL (a := b2) (by omega) (by omega) [25, 50] (by simp) (by simp)
  rw [e3]; simp only [Option.bind_some]
  obtain ⟨v4, b4, e4, g7, g8, q4⟩ := pick_dr hL (a := b3) (by omega) (by omega) [1, 1, 1, 4] (by simp) (by simp)
  rw [e4]; simp only [Option.bind_some]
  obtain ⟨v5, b5, e5, g9, g10, q5⟩ := pick_dr hL (a := b4) (by omega) (by omega) [0, 1, 2] (by simp) (by simp)
  rw [e5]; simp only [Option.bind_some]
  obtain ⟨v6, b6, e6, g11, g12, q6⟩ := pick_dr hL (a := b5) (by omega) (by omega) [0, 0, 5, 10] (by simp) (by simp)
  rw [e6]; simp only [Option.bind_some]
  obtain ⟨v7, b7, e7, g13, g14, q7⟩ := pick_dr hL (a := b6) (by omega) (by omega) [0, 5, 90] (by simp) (by simp)
  rw [e7]; simp only [Option.bind_some]
  refine ⟨_, _, rfl, by omega, by omega, rfl, ?_⟩
  simp only [List.mem_cons, List.not_mem_nil, or_false] at q1 q2 q3 q4 q5 q6 q7
  have w : W (v6 + v7) = v6 + v7 := W_in (by omega) (by omega)
  unfold timing_CheckRace
  simp only [key_race hk, Option.bind_some, Bool.not_true, Bool.false_eq_true, if_false, join_eq, w]
  have c1 : ((!(words_Within v2 1 5)) || (!(words_Within v5 0 2))) = false := by
    unfold words_Within; simp; omega
  have c2 : (((((((!decide (v3 = 25)) && (!decide (v3 = 50))) || (!(words_Within v4 1 4))) || (!(words_Within v1 25 1500))) || (decide (v6 < 0))) || (decide (v6 + v7 < v6))) || (decide (120 < v6 + v7))) = false := by
    unfold words_Within; simp; omega
  have c3 : (!decide (v3 = 0)) = true := by simp; omega
  have c4 : (!decide (Int.tmod v1 v3 = 0)) = false := by rcases q1 with rfl | rfl | rfl <;> rcases q3 with rfl | rfl <;> decide +kernel
  have c5 : decide (v2 = 5) = false := by simp; omega
  simp only [c1, c2, chk_pos c3, c4, c5, Bool.false_eq_true, if_false, Bool.false_and]
theorem races_l : ∀ (ys : List ByteArray) (i : Nat) (x1 : List GRace) (a : Int), 0 ≤ a → a + 8 * ys.length ≤ 10000000 → x1.length + ys.length ≤ 1000 → (∀ y ∈ ys, y ∈ [k_ra, k_rb, k_rc]) → ys.Pairwise (fun a b => cB a b < 0) → (∀ x ∈ x1, timing_CheckRace x = some 0 ∧ ∀ y ∈ ys, cB x.Key y < 0) → x1.Pairwise (fun a b => cB a.Key b.Key < 0) →
    ∃ x b, Stream_MeetRaces_l1 L (fun x a => some (x, a)) ys i x1 a = some (x, b) ∧ a ≤ b ∧ b ≤ a + 8 * ys.length ∧ x.length ≤ x1.length + ys.length ∧ (∀ z ∈ x, timing_CheckRace z = some 0) ∧ x.Pairwise (fun a b => cB a.Key b.Key < 0)
  | [], i, x1, a, _, _, _, _, _, h5, h6 => ⟨x1, a, rfl, Int.le_refl _, by simp, by simp, fun z hz => (h5 z hz).1, h6⟩
  | y :: ys, i, x1, a, h0, h1, h2, h3, h4, h5, h6 => by
    rw [Stream_MeetRaces_l1]
    rw [List.pairwise_cons] at h4
    simp only [List.length_cons] at h1 h2 ⊢
    obtain ⟨f, b, e, g1, g2, _⟩ := flip_dr hL h0 (by omega) 6 (by omega)
    rw [e]; simp only [Option.bind_some, join_eq]
    cases f with
    | true =>
      rw [if_neg (by simp)]
      obtain ⟨x, c, e', g3, g4, g5, g6, g7⟩ := races_l ys (i + 1) x1 b (by omega) (by omega) (by omega) (fun z hz => h3 z (List.mem_cons_of_mem _ hz)) h4.2 (fun x hx => ⟨(h5 x hx).1, fun z hz => (h5 x hx).2 z (List.mem_cons_of_mem _ hz)⟩) h6
      exact ⟨x, c, e', by omega, by omega, by omega, g6, g7⟩
    | false =>
      rw [if_pos (by simp)]
      obtain ⟨s, b2, e2, g3, g4, q1, q2⟩ := race_dr hL (a := b) (by omega) (by omega) y (h3 y List.mem_cons_self)
      rw [e2]; simp only [Option.bind_some]
      rw [chk_pos (by unfold room; simp; omega)]
      obtain ⟨x, c, e', g7, g8, g9, g10, g11⟩ := races_l ys (i + 1) (x1 ++ [s]) b2 (by omega) (by omega) (by simp; omega) (fun z hz => h3 z (List.mem_cons_of_mem _ hz)) h4.2
        (fun x hx => by
          rcases List.mem_append.1 hx with h | h
          · exact ⟨(h5 x h).1, fun z hz => (h5 x h).2 z (List.mem_cons_of_mem _ hz)⟩
          · rw [List.mem_singleton] at h; subst h; exact ⟨q2, fun z hz => by rw [q1]; exact h4.1 z hz⟩)
        (List.pairwise_append.2 ⟨h6, by simp, fun x hx z hz => by rw [List.mem_singleton] at hz; subst hz; rw [q1]; exact (h5 x hx).2 y List.mem_cons_self⟩)
      simp only [List.length_append, List.length_singleton] at g9
      exact ⟨x, c, e', by omega, by omega, by omega, g10, g11⟩
theorem races_dr {a : Int} (h0 : 0 ≤ a) (h1 : a ≤ 1000000) : Dr a 24 (fun x => x.length ≤ 3 ∧ (∀ z ∈ x, timing_CheckRace z = some 0) ∧ x.Pairwise (fun a b => cB a.Key b.Key < 0)) (Stream_MeetRaces L a) := by
  unfold Stream_MeetRaces
  simp only [join_eq]
  obtain ⟨x, c, e', g7, g8, g9, g10, g11⟩ := races_l hL [k_ra, k_rb, k_rc] 0 [] a h0 (by simp; omega) (by simp) (fun _ h => h) (by decide +kernel) (fun _ h => by cases h) List.Pairwise.nil
  exact ⟨x, c, e', g7, by simp at g8; omega, by simpa using g9, g10, g11⟩
end
theorem chkRaces (l : List GRace) (hl : l.length ≤ 100) (h : ∀ x ∈ l, timing_CheckRace x = some 0) (hp : l.Pairwise fun a b => cB a.Key b.Key < 0) : ∀ (ys dn : List GRace), l = dn ++ ys → swimmer_checkRaces_l1 l (some 0) ys dn.length = some 0 := by
  intro ys
  induction ys with
  | nil => intro dn _; rfl
  | cons y ys ih =>
    intro dn h1
    have hr := ih (dn ++ [y]) (by rw [h1]; simp)
    rw [List.length_append, List.length_singleton] at hr
    have hdl : dn.length ≤ 100 := by rw [h1] at hl; simp at hl; omega
    rw [swimmer_checkRaces_l1, h y (by rw [h1]; simp)]
    simp only [join_eq, Option.bind_some, decide_true, Bool.not_true, Bool.false_eq_true, if_false]
    rcases List.eq_nil_or_concat dn with rfl | ⟨d, p, rfl⟩
    · simpa using hr
    · simp only [List.concat_eq_append] at *
      have hlen : ((d ++ [p]).length : Int) = (d.length : Int) + 1 := by simp
      have hw : W (((d ++ [p]).length : Int) - 1) = (d.length : Int) := by rw [hlen, W_in (by omega) (by simp at hdl; omega)]; omega
      have hnp : nth l (d.length : Int) = p := by unfold nth; rw [h1]; simp
      have hin : inB (d.length : Int) l.length = true := by rw [inB_iff, h1]; simp; omega
      have hpos : decide (0 < ((d ++ [p]).length : Int)) = true := by rw [hlen]; simp
      have hpy : cB p.Key y.Key < 0 := by
        rw [h1, List.pairwise_append] at hp
        exact hp.2.2 p (by simp) y (by simp)
      simp only [hpos, hw, chk_pos hin, hnp, behind_not hpy, if_true, Bool.true_and, Bool.and_false, Bool.false_eq_true, if_false]
      exact hr
/-! ### The club -/
def oc : List GMove := [GMove.mk k_ann k_blue 0, GMove.mk k_bea k_blue 0, GMove.mk k_cid k_blue 0, GMove.mk k_dan k_blue 0, GMove.mk k_eve k_blue 0, GMove.mk k_fox k_blue 0]
theorem oc_is (L : List Int) (a : Int) : Stream_OneClub L a = some oc := rfl
theorem oc_ok : swimmer_CheckMoves oc = some 0 := by decide +kernel
theorem oc_blue {day : Int} (h : 0 ≤ day) {who : ByteArray} (hw : who ∈ sixN) : swimmer_clubAt oc who day = k_blue := by
  have hd : decide (0 ≤ day) = true := decide_eq_true h
  unfold swimmer_clubAt oc
  simp only [join_eq, swimmer_clubAt_l1, hd]
  simp only [sixN, List.mem_cons, List.not_mem_nil, or_false] at hw
  rcases hw with rfl | rfl | rfl | rfl | rfl | rfl <;> decide +kernel
/-! ### The law's own loops -/
theorem contains_int (v : Int) (l : List Int) : slices_Contains_int l v = decide (v ∈ l) := by
  have key : ∀ (l : List Int) (i : Nat), decide (0 ≤ slices_Index_int_l1 v (-1) l i) = decide (v ∈ l) := by
    intro l
    induction l with
    | nil => intro i; rfl
    | cons y l ih =>
      intro i
      rw [slices_Index_int_l1]
      by_cases h : v = y
      · simp [h]
      · rw [if_neg (by simpa using h), ih]; simp [h]
  exact key l 0
theorem build_l (n : List Int) (e : Int) (j : List GEntry → Option Bool) : ∀ (ys : List GEntry) (i : Nat) (x1 : List GEntry), x1.length + ys.length ≤ 10000 → tumbkeep2_EntriesKeepBounds_l1 (n, e) j ys i x1 = j (x1 ++ filt i ys n)
  | [], i, x1, _ => by simp [tumbkeep2_EntriesKeepBounds_l1, filt]
  | y :: ys, i, x1, h => by
    simp only [List.length_cons] at h
    rw [tumbkeep2_EntriesKeepBounds_l1, filt]
    simp only [join_eq, contains_int]
    by_cases hm : (i : Int) ∈ n
    · simp only [hm, decide_true, Bool.not_true, Bool.false_eq_true, if_false, if_true]
      exact build_l n e j ys (i + 1) x1 (by omega)
    · simp only [hm, decide_false, Bool.not_false, if_true, if_false]
      rw [chk_pos (by unfold room; simp; omega), build_l n e j ys (i + 1) (x1 ++ [y]) (by simp; omega)]
      rw [List.append_assoc, List.singleton_append]
theorem count_l (y : GEntry) (j : Int → Int → Option Bool) : ∀ (l : List GEntry) (i : Nat) (a c : Int), 0 ≤ a → 0 ≤ c → a + l.length ≤ 100000 → c + l.length ≤ 100000 →
    tumbkeep2_EntriesKeepBounds_l3 y j l i a c = j (a + cW l y.Who) (c + (l.countP fun z => decide (z.Race = y.Race)))
  | [], i, a, c, _, _, _, _ => by simp [tumbkeep2_EntriesKeepBounds_l3, cW]
  | z :: l, i, a, c, h1, h2, h3, h4 => by
    simp only [List.length_cons] at h3 h4
    rw [tumbkeep2_EntriesKeepBounds_l3]
    simp only [join_eq]
    rw [W_in (n := a + 1) (by omega) (by omega), W_in (n := c + 1) (by omega) (by omega)]
    have hw : cW (z :: l) y.Who = cW l y.Who + if z.Who = y.Who then 1 else 0 := by unfold cW; rw [List.countP_cons]; simp
    have hr : ((z :: l).countP fun x => decide (x.Race = y.Race)) = (l.countP fun x => decide (x.Race = y.Race)) + if z.Race = y.Race then 1 else 0 := by rw [List.countP_cons]; simp
    rw [hw, hr]
    by_cases g1 : z.Who = y.Who <;> by_cases g2 : z.Race = y.Race
    · rw [if_pos (decide_eq_true g1), if_pos (decide_eq_true g2), count_l y j l (i + 1) _ _ (by omega) (by omega) (by omega) (by omega), if_pos g1, if_pos g2]
      congr 1 <;> (push_cast; omega)
    · rw [if_pos (decide_eq_true g1), if_neg (by simpa using g2), count_l y j l (i + 1) _ _ (by omega) (by omega) (by omega) (by omega), if_pos g1, if_neg g2]
      congr 1; push_cast; omega
    · rw [if_neg (by simpa using g1), if_pos (decide_eq_true g2), count_l y j l (i + 1) _ _ (by omega) (by omega) (by omega) (by omega), if_neg g1, if_pos g2]
      congr 1; push_cast; omega
    · rw [if_neg (by simpa using g1), if_neg (by simpa using g2), count_l y j l (i + 1) _ _ (by omega) (by omega) (by omega) (by omega), if_neg g1, if_neg g2]
      rfl
theorem all_l (b : GBounds) (e : Int) (acc : List GEntry) (hl : acc.length ≤ 10000) (h : ∀ z ∈ acc, (cW acc z.Who : Int) ≤ b.Races ∧ ((acc.countP fun x => decide (x.Race = z.Race) : Nat) : Int) ≤ b.Club) : ∀ (ys : List GEntry) (i : Nat), (∀ y ∈ ys, y ∈ acc) → tumbkeep2_EntriesKeepBounds_l2 (b, e) acc (some true) ys i = some true
  | [], _, _ => rfl
  | y :: ys, i, hy => by
    rw [tumbkeep2_EntriesKeepBounds_l2]
    simp only [join_eq]
    rw [count_l y _ acc 0 0 0 (by omega) (by omega) (by omega) (by omega)]
    obtain ⟨g1, g2⟩ := h y (hy y List.mem_cons_self)
    rw [if_neg (by simp; omega)]
    exact all_l b e acc hl h ys (i + 1) fun z hz => hy z (List.mem_cons_of_mem _ hz)
theorem plain_EntriesKeepBounds (l : List Int) (hl : l.length ≤ 9223372036854775807) : tumbkeep2_EntriesKeepBounds l = some true := by
  have hL : LongL l := by unfold LongL; omega
  obtain ⟨r, a1, e1, p1, q1, r1, r2, r3⟩ := races_dr hL (a := 0) (by omega) (by omega)
  obtain ⟨s, a2, e2, p2, q2, s1, s2, s3⟩ := swim_dr hL (a := a1) (by omega) (by omega)
  obtain ⟨b, a3, e3, p3, q3, _⟩ := bounds_dr hL (a := a2) (by omega) (by omega)
  obtain ⟨k, a4, e4, p4, q4, k1, k2⟩ := range_dr hL (a := a3) (by omega) (by omega) 0 14 (by omega) (by omega) (by omega)
  obtain ⟨x, a5, e5, p5, q5, _⟩ := entries_dr hL (a := a4) (by omega) (by omega) k (by omega) (by omega)
  obtain ⟨e, c1, c2, c3⟩ := entries_eq x
  unfold tumbkeep2_EntriesKeepBounds
  rw [e1]; simp only [Option.bind_some]
  rw [e2]; simp only [Option.bind_some]
  rw [oc_is]; simp only [Option.bind_some]
  rw [e3]; simp only [Option.bind_some]
  rw [e4]; simp only [Option.bind_some]
  rw [e5]; simp only [Option.bind_some, join_eq, ready_ok, c2]
  by_cases hb : tumbref2_BoundsFault b = 0
  · by_cases he : e = 0
    · by_cases hd : b.Day < 0
      · simp [hb, he, hd]
      · subst he
        have hd4 := bounds_day hb
        have hs : ∀ z ∈ s, z.Key ∈ sixN ∧ -40000 ≤ z.Born ∧ z.Born ≤ 4000 := fun z hz => ⟨(s2 z hz).1, (s2 z hz).2.2⟩
        have hxl := c3 rfl
        have hmeet : swimmer_checkMeet r s oc b = some 0 := by
          unfold swimmer_checkMeet
          have h1 : swimmer_checkRaces r = some 0 := by
            unfold swimmer_checkRaces
            rw [if_neg (by simp; omega), join_eq]
            exact chkRaces r (by omega) r2 r3 r [] rfl
          have h2 : swimmer_CheckSwimmers s = some 0 := by
            unfold swimmer_CheckSwimmers
            rw [if_neg (by simp; omega), join_eq]
            exact chkSwim s (by omega) s2 s3 s [] rfl
          rw [h1, h2, oc_ok, bounds_eq, hb]; rfl
        obtain ⟨n, n1, _, n3⟩ := run1 r s b oc hs (by omega) hd4 x 0 [] [] [] [] (by simp; omega) (by simp; omega) (fun _ => by simp [mgetD, mget, mfind, cW]) (fun _ _ => by simp [mgetD, mget, mfind, cA]) (fun dn z ys h => by simp at h)
        simp only [List.nil_append] at n1 n3
        have hfl : (filt 0 x n).length ≤ 10000 := by have := (filt_sub x 0 n).length_le; omega
        have hR : swimmer_Refused r s oc b x = some (n, 0) := by
          unfold swimmer_Refused
          rw [hmeet, c1]
          simp only [Option.bind_some, decide_true, Bool.not_true, Bool.false_eq_true, if_false, join_eq]
          exact n1
        have hR2 : swimmer_Refused r s oc b (filt 0 x n) = some ([], 0) := by
          unfold swimmer_Refused
          rw [hmeet, ck_sub c1 (filt_sub x 0 n)]
          simp only [Option.bind_some, decide_true, Bool.not_true, Bool.false_eq_true, if_false, join_eq]
          exact run2 r s b oc (filt 0 x n) n3 hfl (filt 0 x n) [] 0 [] [] rfl (fun _ => by simp [mgetD, mget, mfind, cW]) (fun _ _ => by simp [mgetD, mget, mfind, cA])
        have hkeep := kept r s b oc hs (by omega) hd4 k_blue (by decide +kernel) (fun who hw => oc_blue (by omega) hw) (filt 0 x n) n3 (filt 0 x n) [] rfl (fun _ h => by cases h)
        have hdn : decide (b.Day < 0) = false := by simpa using hd
        simp only [hb, hdn, decide_true, Bool.not_true, Bool.false_eq_true, if_false, Bool.or_self, hR, Option.bind_some]
        rw [build_l n 0 _ x 0 [] (by simp; omega)]
        simp only [List.nil_append, hR2, Option.bind_some]
        have he0 : tumbkeep2_errs [0, 0] = 0 := by decide +kernel
        simp only [he0, List.length_nil, Int.natCast_zero, decide_true, Bool.not_true, Bool.or_self, Bool.false_eq_true, if_false]
        exact all_l b a3 (filt 0 x n) hfl (fun z hz => by
          have := hkeep z hz
          rw [all_blue r s b oc hs (by omega) hd4 k_blue (fun who hw => oc_blue (by omega) hw) (filt 0 x n) n3] at this
          exact this) (filt 0 x n) 0 (fun _ h => h)
    · simp [hb, he]
  · simp [hb]
end Go.Proofs.YtdcmeoefpigcdaaGreatDoor
