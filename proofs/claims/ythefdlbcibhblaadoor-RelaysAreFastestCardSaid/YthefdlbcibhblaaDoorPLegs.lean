/- Legs: the program's check; what the stream gives; the search for the fastest relay, by its recursion. Conditions: the twins of package swimmer. -/
import Derived.Test.YthefdlbcibhblaaDoorPKey2
import Derived.Test.YthefdlbcibhblaaDoorPMembers
import Derived.Test.YthefdlbcibhblaaDoorPStr
import Derived.Test.YthefdlbcibhblaaDoorPList
namespace Go.Proofs.YthefdlbcibhblaaDoor
open Go
/-- Legs as they must be. -/
structure LGood (l : List GLeg) : Prop where
  len : l.length ≤ 12
  four : ∀ x ∈ l, x.Times.length = 4
  rng : ∀ x ∈ l, ∀ t ∈ x.Times, 0 ≤ t ∧ t ≤ 360000
  sort : l.Pairwise fun x y => cB x.Who y.Who < 0
theorem legs_l2 (j : Option Int) : ∀ (ts : List Int) (i : Nat), swimmer_CheckLegs_l2 j ts i = if ts.any (fun t => !(words_Within t 0 360000)) then some 1 else j
  | [], _ => rfl
  | t :: ts, i => by
    rw [swimmer_CheckLegs_l2, legs_l2 j ts, List.any_cons]
    cases words_Within t 0 360000 with
    | true => simp only [Bool.not_true, Bool.false_eq_true, if_false, Bool.false_or]
    | false => simp only [Bool.not_false, if_true, Bool.true_or]
theorem isKey_tot (s : ByteArray) : ∃ b, words_IsKey s = some b := by
  by_cases hs : 1 ≤ s.size ∧ s.size ≤ 40
  · obtain ⟨h1, h2⟩ := hs
    have hwin : (decide (1 ≤ (s.size : Int)) && decide ((s.size : Int) ≤ 40)) = true := by simp; omega
    have hb0 : inB 0 s.size = true := inB_iff.2 ⟨by omega, by omega⟩
    have htrim : strings_Trim s k_abcdefghijkl_h0e2e2c = some ⟨(Lib.trimS s.data.toList k_abcdefghijkl_h0e2e2c.data.toList).toArray⟩ := by
      unfold strings_Trim
      rw [chk_pos (by simp; omega), chk_pos (by decide +kernel), chk_pos ascii_key]
    unfold words_IsKey
    simp only [join_eq, hwin, if_true, Bool.true_and, chk_pos hb0]
    by_cases g1 : 97 ≤ sbyte s 0
    · simp only [g1, decide_true, if_true, Bool.true_and]
      by_cases g2 : sbyte s 0 ≤ 122
      · simp only [g2, decide_true, if_true, Bool.true_and, htrim, Option.bind_some]; exact ⟨_, rfl⟩
      · simp only [g2, decide_false, Bool.false_eq_true, if_false, Bool.false_and]; exact ⟨_, rfl⟩
    · simp only [g1, decide_false, Bool.false_eq_true, if_false, Bool.false_and]; exact ⟨_, rfl⟩
  · have hwin : (decide (1 ≤ (s.size : Int)) && decide ((s.size : Int) ≤ 40)) = false := by simp; omega
    unfold words_IsKey
    simp only [join_eq, hwin, Bool.false_eq_true, if_false, Bool.false_and]; exact ⟨_, rfl⟩
theorem legs_loopP (l : List GLeg) (hl : l.length ≤ 12) : ∀ (ys dn : List GLeg), l = dn ++ ys → dn.Pairwise (fun x y => cB x.Who y.Who < 0) →
    ∃ e, swimmer_CheckLegs_l1 l (some 0) ys dn.length = some e ∧ (e = 0 → l.Pairwise (fun x y => cB x.Who y.Who < 0) ∧ ∀ x ∈ ys, x.Times.length = 4 ∧ ∀ t ∈ x.Times, 0 ≤ t ∧ t ≤ 360000) := by
  intro ys
  induction ys with
  | nil => intro dn h1 h4; exact ⟨0, rfl, fun _ => ⟨by rw [h1]; simpa using h4, fun x hx => by cases hx⟩⟩
  | cons y ys ih =>
    intro dn h1 h4
    rw [swimmer_CheckLegs_l1]
    obtain ⟨b, e1⟩ := isKey_tot y.Who
    rw [e1]
    simp only [Option.bind_some, join_eq]
    cases b with
    | false => exact ⟨5, rfl, fun h => by cases h⟩
    | true =>
      simp only [Bool.not_true, Bool.false_eq_true, if_false]
      have hrest : dn = [] ∨ (∃ d x, dn = d ++ [x] ∧ (Sless y.Who x.Who || decide (y.Who = x.Who)) = false) → ∃ e, (if (!decide ((y.Times.length : Int) = 4)) = true then some 3 else swimmer_CheckLegs_l2 (swimmer_CheckLegs_l1 l (some 0) ys (dn.length + 1)) y.Times 0) = some e ∧
          (e = 0 → l.Pairwise (fun x y => cB x.Who y.Who < 0) ∧ ∀ x ∈ y :: ys, x.Times.length = 4 ∧ ∀ t ∈ x.Times, 0 ≤ t ∧ t ≤ 360000) := by
        intro hord
        by_cases hf : (y.Times.length : Int) = 4
        · rw [if_neg (by simp [hf]), legs_l2]
          cases ha : y.Times.any (fun t => !(words_Within t 0 360000)) with
          | true => rw [if_pos rfl]; exact ⟨1, rfl, fun h => by cases h⟩
          | false =>
            rw [if_neg (by simp)]
            have hp : (dn ++ [y]).Pairwise (fun x y => cB x.Who y.Who < 0) := by
              rw [List.pairwise_append]
              refine ⟨h4, by simp, fun x hx z hz => ?_⟩
              obtain rfl := List.mem_singleton.1 hz
              rcases hord with rfl | ⟨d, p, rfl, hs⟩
              · cases hx
              · rw [sless_cb] at hs
                simp only [Bool.or_eq_false_iff, decide_eq_false_iff_not] at hs
                have hlt : cB p.Who z.Who < 0 := by
                  have := cB_rng z.Who p.Who
                  have h0 : cB z.Who p.Who ≠ 0 := fun h => hs.2 (cB_zero h)
                  rw [cB_flip]; omega
                rcases List.mem_append.1 hx with hx | hx
                · rw [List.pairwise_append] at h4
                  exact cB_trans (h4.2.2 x hx p (by simp)) hlt
                · obtain rfl := List.mem_singleton.1 hx; exact hlt
            obtain ⟨e, g1, g3⟩ := ih (dn ++ [y]) (by rw [h1]; simp) hp
            rw [List.length_append, List.length_singleton] at g1
            refine ⟨e, g1, fun h => ⟨(g3 h).1, fun x hx => ?_⟩⟩
            rcases List.mem_cons.1 hx with rfl | hx
            · refine ⟨by omega, fun t ht => ?_⟩
              have := List.any_eq_false.1 ha t ht
              unfold words_Within at this
              simp at this
              omega
            · exact (g3 h).2 x hx
        · rw [if_pos (by simp [hf])]
          exact ⟨3, rfl, fun h => by cases h⟩
      rcases List.eq_nil_or_concat dn with rfl | ⟨d, x, rfl⟩
      · simp only [List.length_nil, Int.natCast_zero, Int.lt_irrefl, decide_false, Bool.false_eq_true, if_false, Bool.false_and, Bool.false_or, decide_eq_true_eq]
        simpa using hrest (.inl rfl)
      · simp only [List.concat_eq_append] at *
        have hlen : ((d ++ [x]).length : Int) = (d.length : Int) + 1 := by simp
        have hdl : d.length ≤ 12 := by rw [h1] at hl; simp at hl; omega
        have hn : nth l (W (((d ++ [x]).length : Int) - 1)) = x := by
          rw [hlen, show (d.length : Int) + 1 - 1 = (d.length : Int) by omega, W_in (by omega) (by omega)]
          unfold nth
          rw [h1]; simp
        have hin : inB (W (((d ++ [x]).length : Int) - 1)) l.length = true := by
          rw [hlen, show (d.length : Int) + 1 - 1 = (d.length : Int) by omega, W_in (by omega) (by omega)]
          rw [inB_iff, h1]; simp; omega
        have hpos : decide (0 < ((d ++ [x]).length : Int)) = true := by rw [hlen]; simp
        rw [if_pos hpos, chk_pos hin, hn, hpos, Bool.true_and]
        cases hc : (Sless y.Who x.Who || decide (y.Who = x.Who)) with
        | true => simp only [if_true]; exact ⟨7, rfl, fun h => by cases h⟩
        | false => simpa using hrest (.inr ⟨d, x, rfl, hc⟩)
theorem legs_tot (l : List GLeg) : ∃ e, swimmer_CheckLegs l = some e ∧ (e = 0 → LGood l) := by
  unfold swimmer_CheckLegs
  by_cases h : 12 < (l.length : Int)
  · rw [if_pos (decide_eq_true h)]
    exact ⟨2, rfl, fun h => by cases h⟩
  · rw [if_neg (by simpa using h)]
    simp only [join_eq]
    obtain ⟨e, g1, g3⟩ := legs_loopP l (by omega) l [] rfl (by simp)
    exact ⟨e, g1, fun h => ⟨by omega, fun x hx => ((g3 h).2 x hx).1, fun x hx => ((g3 h).2 x hx).2, (g3 h).1⟩⟩
/-! ### What the stream gives -/
section
variable {L : List Int} (hL : LongL L)
include hL
theorem legs_s2 (j : List Int → Int → Option (List GLeg × Int)) : ∀ (k m : Nat) (x5 : List Int) (a x7 : Int), 0 ≤ x7 → 4 - x7 ≤ (k : Int) → x7 ≤ 4 → k < m → 0 ≤ a → a + k ≤ 1000000000 → x5.length = x7.toNat →
    ∃ x b, Stream_Legs_l2 L j m x5 a x7 = j x b ∧ a ≤ b ∧ b ≤ a + k ∧ x.length = 4
  | k, 0, _, _, _, _, _, _, h, _, _, _ => absurd h (by omega)
  | k, m + 1, x5, a, x7, h1, h2, h3, h4, h5, h6, h7 => by
    rw [Stream_Legs_l2]
    by_cases hc : x7 < 4
    · rw [if_pos (decide_eq_true hc)]
      obtain ⟨k, rfl⟩ : ∃ q, k = q + 1 := ⟨k - 1, by omega⟩
      obtain ⟨v, b, e, g1, g2, _⟩ := pick_dr hL h5 (by omega) [0, 10, 11, 12, 12, 13, 15] (by simp) (by simp)
      rw [e]; simp only [Option.bind_some]
      rw [chk_pos (by unfold room; simp; omega), W_in (by omega) (by omega)]
      obtain ⟨x, c, r1, r2, r3, r4⟩ := legs_s2 j k m (x5 ++ [v]) b (x7 + 1) (by omega) (by omega) (by omega) (by omega) (by omega) (by omega) (by simp; omega)
      exact ⟨x, c, r1, by omega, by omega, r4⟩
    · rw [if_neg (by simpa using hc)]
      exact ⟨x5, a, rfl, by omega, by omega, by omega⟩
theorem legs_s1 : ∀ (ys : List ByteArray) (i : Nat) (x1 : List GLeg) (a : Int), 0 ≤ a → a + 11 * ys.length ≤ 1000000 → x1.length + ys.length ≤ 1000 →
    ∃ x b, Stream_Legs_l1 L (fun x a => some (x, a)) ys i x1 a = some (x, b) ∧ a ≤ b ∧ b ≤ a + 11 * ys.length ∧ x.length ≤ x1.length + ys.length
  | [], i, x1, a, _, _, _ => ⟨x1, a, rfl, Int.le_refl _, by simp, by simp⟩
  | y :: ys, i, x1, a, h0, h1, h2 => by
    rw [Stream_Legs_l1]
    simp only [List.length_cons] at h1 h2 ⊢
    obtain ⟨f, b, e, g1, g2, _⟩ := flip_dr hL h0 (by omega) 6 (by omega)
    rw [e]; simp only [Option.bind_some, join_eq]
    cases f with
    | true =>
      rw [if_pos rfl]
      obtain ⟨x, c, e', g3, g4, g5⟩ := legs_s1 ys (i + 1) x1 b (by omega) (by omega) (by omega)
      exact ⟨x, c, e', by omega, by omega, by omega⟩
    | false =>
      rw [if_neg (by simp)]
      obtain ⟨ts, c, e2, g3, g4, g5⟩ := legs_s2 hL (fun (x5 : List Int) (x6 : Int) => Option.bind (Stream_Flip L x6 60) (fun r3 => if r3.1 = true then
        Option.bind (Stream_Some L r3.2 [y, k_empty, k_aa]) (fun r4 => Option.bind (Stream_Range L r4.2 3 4) (fun r5 => Chk (cutB 0 r5.1 x5.length) (Option.bind (Stream_Odd L r5.2 0 20) (fun r6 => Chk (inB 0 (cut x5 (0 : Int) r5.1).length) (
          Chk (room x1.length) (Stream_Legs_l1 L (fun x a => some (x, a)) ys (i + 1) (x1 ++ [(GLeg.mk r4.1 ((cut x5 (0 : Int) r5.1).set ((0 : Int).toNat) r6.1))]) r6.2))))))
        else Chk (room x1.length) (Stream_Legs_l1 L (fun x a => some (x, a)) ys (i + 1) (x1 ++ [(GLeg.mk y x5)]) r3.2))) 4 6 [] b 0 (by omega) (by omega) (by omega) (by omega) (by omega) (by omega) rfl
      rw [e2]
      obtain ⟨f, d, e3, g6, g7, _⟩ := flip_dr hL (a := c) (by omega) (by omega) 60 (by omega)
      rw [e3]; simp only [Option.bind_some]
      cases f with
      | false =>
        rw [if_neg (by simp), chk_pos (by unfold room; simp; omega)]
        obtain ⟨x, c, e', q3, q4, q5⟩ := legs_s1 ys (i + 1) (x1 ++ [GLeg.mk y ts]) d (by omega) (by omega) (by simp; omega)
        simp only [List.length_append, List.length_singleton] at q5
        exact ⟨x, c, e', by omega, by omega, by omega⟩
      | true =>
        rw [if_pos rfl]
        obtain ⟨s, d1, p1, u1, v1, _⟩ := some_dr hL (a := d) (by omega) (by omega) [y, k_empty, k_aa] (by simp) (by simp)
        rw [p1]; simp only [Option.bind_some]
        obtain ⟨n, d2, p2, u2, v2, w2⟩ := range_dr hL (a := d1) (by omega) (by omega) 3 4 (by omega) (by omega) (by omega)
        rw [p2]; simp only [Option.bind_some]
        rw [chk_pos (cutB_iff.2 (by omega))]
        obtain ⟨o, d3, p3, u3, v3, _⟩ := odd_dr hL (a := d2) (by omega) (by omega) 0 20 (by omega) (by omega) (by omega)
        rw [p3]; simp only [Option.bind_some]
        have hcl : (cut ts 0 n).length = n.toNat := by simp [cut]; omega
        rw [chk_pos (inB_iff.2 (by omega)), chk_pos (by unfold room; simp; omega)]
        obtain ⟨x, c, e', q3, q4, q5⟩ := legs_s1 ys (i + 1) (x1 ++ [GLeg.mk s ((cut ts 0 n).set ((0 : Int).toNat) o)]) d3 (by omega) (by omega) (by simp; omega)
        simp only [List.length_append, List.length_singleton] at q5
        exact ⟨x, c, e', by omega, by omega, by omega⟩
theorem legs_dr {a : Int} (h0 : 0 ≤ a) (h1 : a ≤ 100000) : Dr a 66 (fun x => x.length ≤ 6) (Stream_Legs L a) := by
  unfold Stream_Legs
  simp only [join_eq]
  obtain ⟨x, c, e', g7, g8, g9⟩ := legs_s1 hL [k_aa, k_bb, k_cc, k_xa, k_xb, k_xc] 0 [] a h0 (by simp; omega) (by simp)
  exact ⟨x, c, e', g7, by simp at g8; omega, by simpa using g9⟩
end
/-! ### The search -/
/-- The time of somebody on a leg; 0: none. -/
def tm (l : List GLeg) (k : ByteArray) (i : Nat) : Int := match l.find? (fun x => decide (x.Who = k)) with
  | none => 0
  | some x => nth x.Times (i : Int)
def totF (l : List GLeg) : List ByteArray → Nat → Int
  | [], _ => 0
  | k :: ks, i => tm l k i + totF l ks (i + 1)
theorem totF_app (l : List GLeg) : ∀ (a b : List ByteArray) (i : Nat), totF l (a ++ b) i = totF l a i + totF l b (i + a.length)
  | [], b, i => by simp [totF]
  | k :: a, b, i => by
    simp only [List.cons_append, totF, totF_app l a b (i + 1), List.length_cons]
    rw [show i + 1 + a.length = i + (a.length + 1) by omega]; omega
/-- A part of a relay: nobody twice, everybody with a time. -/
def Vd (l : List GLeg) (f : List ByteArray) : Prop := f.Nodup ∧ ∀ i k, f[i]? = some k → tm l k i ≠ 0
/-- Whole relays that begin so. -/
def Cp (l : List GLeg) (now full : List ByteArray) : Prop := full.length = 4 ∧ Vd l full ∧ ∃ r, full = now ++ r
abbrev BS := List ByteArray × Int × Bool
/-- From one state of the search to a later one, when relays C have been tried (all of them, where b has no bound). -/
structure SP (l : List GLeg) (b : Int) (C : List ByteArray → Prop) (p q : BS) : Prop where
  no : q.2.2 = false → p.2.2 = false ∧ q.1 = p.1 ∧ q.2.1 = p.2.1
  none : q.2.2 = false → b ≤ 0 → ∀ f, ¬ C f
  src : q.2.2 = true → (p.2.2 = true ∧ q.1 = p.1 ∧ q.2.1 = p.2.1) ∨ (q.1.length = 4 ∧ Vd l q.1 ∧ q.2.1 = totF l q.1 0)
  old : p.2.2 = true → q.2.2 = true ∧ q.2.1 ≤ p.2.1
  least : q.2.2 = true → b ≤ 0 → ∀ f, C f → q.2.1 ≤ totF l f 0
theorem SP.refl {l : List GLeg} {b : Int} {C : List ByteArray → Prop} (p : BS) (h : b ≤ 0 → ∀ f, ¬ C f) : SP l b C p p :=
  ⟨fun h => ⟨h, rfl, rfl⟩, fun _ => h, fun h => .inl ⟨h, rfl, rfl⟩, fun h => ⟨h, Int.le_refl _⟩, fun _ hb f hf => (h hb f hf).elim⟩
theorem SP.trans {l : List GLeg} {b : Int} {C1 C2 C : List ByteArray → Prop} {p q r : BS} (h : SP l b C1 p q) (k : SP l b C2 q r) (hC : b ≤ 0 → ∀ f, C f → C1 f ∨ C2 f) : SP l b C p r := by
  refine ⟨fun e => ?_, fun e hb f hf => ?_, fun e => ?_, fun e => ?_, fun e hb f hf => ?_⟩
  · obtain ⟨a1, a2, a3⟩ := k.no e
    obtain ⟨b1, b2, b3⟩ := h.no a1
    exact ⟨b1, a2.trans b2, a3.trans b3⟩
  · rcases hC hb f hf with h1 | h1
    · exact h.none (k.no e).1 hb f h1
    · exact k.none e hb f h1
  · rcases k.src e with ⟨a1, a2, a3⟩ | a
    · rcases h.src a1 with ⟨b1, b2, b3⟩ | b
      · exact .inl ⟨b1, a2.trans b2, a3.trans b3⟩
      · exact .inr (by rw [a2, a3]; exact b)
    · exact .inr a
  · obtain ⟨a1, a2⟩ := h.old e
    obtain ⟨b1, b2⟩ := k.old a1
    exact ⟨b1, by omega⟩
  · rcases hC hb f hf with h1 | h1
    · cases hq : q.2.2 with
      | false => exact (h.none hq hb f h1).elim
      | true =>
        have := h.least hq hb f h1
        have := (k.old hq).2
        omega
    · exact k.least e hb f h1
theorem find_who {l : List GLeg} (hs : l.Pairwise fun x y => cB x.Who y.Who < 0) {y : GLeg} (hy : y ∈ l) : l.find? (fun x => decide (x.Who = y.Who)) = some y := by
  induction l with
  | nil => cases hy
  | cons x l ih =>
    obtain ⟨h1, h2⟩ := List.pairwise_cons.1 hs
    rcases List.mem_cons.1 hy with rfl | hy
    · simp
    · have hne : x.Who ≠ y.Who := fun e => by have := h1 y hy; rw [e, cB_refl] at this; omega
      rw [List.find?_cons, decide_eq_false hne]
      exact ih h2 hy
theorem tm_of {l : List GLeg} (hl : LGood l) {y : GLeg} (hy : y ∈ l) (i : Nat) : tm l y.Who i = nth y.Times (i : Int) := by
  unfold tm; rw [find_who hl.sort hy]
theorem tm_in {l : List GLeg} {k : ByteArray} {i : Nat} (h : tm l k i ≠ 0) : ∃ y ∈ l, y.Who = k := by
  unfold tm at h
  split at h
  · exact (h rfl).elim
  · rename_i x hx
    exact ⟨x, List.mem_of_find?_eq_some hx, by have := List.find?_some hx; simpa using this⟩
theorem nth_mem {α : Type} [Inhabited α] {l : List α} {e : Int} (h : inB e l.length = true) : nth l e ∈ l := List.mem_of_getElem? (inB_get h).1
theorem prefix_x (s : ByteArray) : ∃ b, strings_HasPrefix s k_x = some b := by
  unfold strings_HasPrefix stringslite_HasPrefix
  simp only [join_eq]
  by_cases h : (k_x.size : Int) ≤ (s.size : Int)
  · rw [if_pos (decide_eq_true h), chk_pos (cutB_iff.2 (by omega))]; exact ⟨_, rfl⟩
  · rw [if_neg (by simpa using h)]; exact ⟨_, rfl⟩
theorem vd_snoc {l : List GLeg} {now : List ByteArray} {k : ByteArray} (h : Vd l now) (hk : k ∉ now) (ht : tm l k now.length ≠ 0) : Vd l (now ++ [k]) := by
  refine ⟨?_, fun i q hq => ?_⟩
  · rw [List.nodup_append]
    exact ⟨h.1, by simp, fun a ha b hb e => hk (by rw [List.mem_singleton] at hb; rw [← hb, ← e]; exact ha)⟩
  · rcases Nat.lt_or_ge i now.length with hi | hi
    · rw [List.getElem?_append_left hi] at hq; exact h.2 i q hq
    · rw [List.getElem?_append_right hi] at hq
      have h0 : i = now.length := by
        rcases Nat.eq_or_lt_of_le hi with h | h
        · exact h.symm
        · rw [List.getElem?_eq_none (by simp; omega)] at hq; cases hq
      subst h0
      simp at hq; subst hq; exact ht
/-- What a call of try gives. -/
def TrySpec (l : List GLeg) (b : Int) (f : List GLeg → Int → List ByteArray → List ByteArray → Int → Bool → Int → Int → Option (List ByteArray × List ByteArray × Int × Bool)) (d : Nat) : Prop :=
  ∀ (now names : List ByteArray) (bs : Int) (fd : Bool) (g s : Int), now.length + d = 4 → Vd l now → s = totF l now 0 → 0 ≤ s → s ≤ 360000 * now.length → 0 ≤ g → g ≤ now.length →
    ∃ names' bs' fd', f l b now names bs fd g s = some (now, names', bs', fd') ∧ SP l b (Cp l now) (names, bs, fd) (names', bs', fd')
theorem try_loop {l : List GLeg} (hl : LGood l) (b : Int) (self : List GLeg → Int → List ByteArray → List ByteArray → Int → Bool → Int → Int → Option (List ByteArray × List ByteArray × Int × Bool)) (d : Nat) (hf : TrySpec l b self d)
    (now : List ByteArray) (g s : Int) (hd : now.length + (d + 1) = 4) (hv : Vd l now) (hs : s = totF l now 0) (hs0 : 0 ≤ s) (hs1 : s ≤ 360000 * now.length) (hg0 : 0 ≤ g) (hg1 : g ≤ now.length) :
    ∀ (ys : List GLeg) (i : Nat) (bs : Int) (fd : Bool) (names : List ByteArray), (∀ y ∈ ys, y ∈ l) →
      ∃ names' bs' fd', crew_try_l1 now self l b s g (fun x4 x5 x6 x7 => some (x6, x7, x4, x5)) ys i bs fd now names = some (now, names', bs', fd') ∧ SP l b (fun f => Cp l now f ∧ ∃ y ∈ ys, f[now.length]? = some y.Who) (names, bs, fd) (names', bs', fd')
  | [], i, bs, fd, names, _ => ⟨names, bs, fd, rfl, SP.refl _ fun _ f hf => by obtain ⟨_, y, hy, _⟩ := hf; cases hy⟩
  | y :: ys, i, bs, fd, names, hy => by
    have hyl := hy y List.mem_cons_self
    have h4 := hl.four y hyl
    have hin : inB (now.length : Int) y.Times.length = true := inB_iff.2 (by omega)
    obtain ⟨p, hp⟩ := prefix_x y.Who
    have ht := tm_of hl hyl now.length
    have htr := hl.rng y hyl _ (nth_mem hin)
    -- the ways that go on with nobody new
    have skip : (b ≤ 0 → nth y.Times (now.length : Int) = 0 ∨ y.Who ∈ now) → ∃ names' bs' fd', crew_try_l1 now self l b s g (fun x4 x5 x6 x7 => some (x6, x7, x4, x5)) ys (i + 1) bs fd now names = some (now, names', bs', fd') ∧ SP l b (fun f => Cp l now f ∧ ∃ y' ∈ y :: ys, f[now.length]? = some y'.Who) (names, bs, fd) (names', bs', fd') := by
      intro hno
      obtain ⟨n', b', f', e, h⟩ := try_loop hl b self d hf now g s hd hv hs hs0 hs1 hg0 hg1 ys (i + 1) bs fd names fun z hz => hy z (List.mem_cons_of_mem _ hz)
      refine ⟨n', b', f', e, SP.trans (SP.refl (C := fun _ => False) _ fun _ _ h => h) h fun hb f hf => .inr ⟨hf.1, ?_⟩⟩
      obtain ⟨hc, z, hz, hfz⟩ := hf
      rcases List.mem_cons.1 hz with rfl | hz
      · exfalso
        obtain ⟨h5, h6, r, rfl⟩ := hc
        rcases hno hb with h0 | h0
        · exact h6.2 _ _ hfz (ht.trans h0)
        · rw [List.getElem?_append_right (Nat.le_refl _), Nat.sub_self] at hfz
          have := h6.1
          rw [List.nodup_append] at this
          exact this.2.2 _ h0 _ (List.mem_of_getElem? hfz) rfl
      · exact ⟨z, hz, hfz⟩
    have go : ∀ (g' : Int), 0 ≤ g' → g' ≤ now.length + 1 → nth y.Times (now.length : Int) ≠ 0 → (if slices_Contains_string now y.Who = true then crew_try_l1 now self l b s g (fun x4 x5 x6 x7 => some (x6, x7, x4, x5)) ys (i + 1) bs fd now names
        else Chk (room now.length) (Chk (inB (now.length : Int) y.Times.length) (Option.bind (self l b (now ++ [y.Who]) names bs fd g' (W (s + nth y.Times (now.length : Int)))) (fun r4 => Chk (cutB 0 (now.length : Int) r4.1.length) (crew_try_l1 now self l b s g (fun x4 x5 x6 x7 => some (x6, x7, x4, x5)) ys (i + 1) r4.2.2.1 r4.2.2.2 (cut r4.1 (0 : Int) (now.length : Int)) r4.2.1)))))
        = crew_try_l1 now self l b s g (fun x4 x5 x6 x7 => some (x6, x7, x4, x5)) ys (i + 1) bs fd now names ∧ y.Who ∈ now ∨ ∃ names' bs' fd', (if slices_Contains_string now y.Who = true then crew_try_l1 now self l b s g (fun x4 x5 x6 x7 => some (x6, x7, x4, x5)) ys (i + 1) bs fd now names
        else Chk (room now.length) (Chk (inB (now.length : Int) y.Times.length) (Option.bind (self l b (now ++ [y.Who]) names bs fd g' (W (s + nth y.Times (now.length : Int)))) (fun r4 => Chk (cutB 0 (now.length : Int) r4.1.length) (crew_try_l1 now self l b s g (fun x4 x5 x6 x7 => some (x6, x7, x4, x5)) ys (i + 1) r4.2.2.1 r4.2.2.2 (cut r4.1 (0 : Int) (now.length : Int)) r4.2.1)))))
        = some (now, names', bs', fd') ∧ SP l b (fun f => Cp l now f ∧ ∃ y' ∈ y :: ys, f[now.length]? = some y'.Who) (names, bs, fd) (names', bs', fd') := by
      intro g' k0 k1 hne
      rw [contains_str]
      by_cases hc : y.Who ∈ now
      · left
        rw [if_pos (List.any_eq_true.2 ⟨_, hc, by simp⟩)]
        exact ⟨rfl, hc⟩
      · right
        rw [if_neg (by simp only [List.any_eq_true, decide_eq_true_eq, not_exists, not_and]; rintro x hx rfl; exact hc hx)]
        rw [chk_pos (by unfold room; simp; omega), chk_pos hin, W_in (by omega) (by omega)]
        have hv' := vd_snoc hv hc (by rw [ht]; exact hne)
        have hs' : s + nth y.Times (now.length : Int) = totF l (now ++ [y.Who]) 0 := by rw [totF_app, hs]; simp [totF, ht]
        obtain ⟨n1, b1, f1, e1, s1⟩ := hf (now ++ [y.Who]) names bs fd g' (s + nth y.Times (now.length : Int)) (by simp; omega) hv' hs' (by omega) (by simp; omega) k0 (by simp; omega)
        rw [e1, Option.bind_some, chk_pos (cutB_iff.2 (by simp; omega))]
        have hcut : cut (now ++ [y.Who]) (0 : Int) (now.length : Int) = now := by simp [cut]
        simp only [hcut]
        obtain ⟨n2, b2, f2, e2, s2⟩ := try_loop hl b self d hf now g s hd hv hs hs0 hs1 hg0 hg1 ys (i + 1) b1 f1 n1 fun z hz => hy z (List.mem_cons_of_mem _ hz)
        refine ⟨n2, b2, f2, e2, s1.trans s2 fun _ f hf => ?_⟩
        obtain ⟨⟨h5, h6, r, rfl⟩, z, hz, hfz⟩ := hf
        rcases List.mem_cons.1 hz with rfl | hz
        · left
          rw [List.getElem?_append_right (Nat.le_refl _), Nat.sub_self] at hfz
          cases r with
          | nil => cases hfz
          | cons q r => simp at hfz; subst hfz; exact ⟨h5, h6, r, by simp⟩
        · exact .inr ⟨⟨h5, h6, r, rfl⟩, z, hz, hfz⟩
    rw [crew_try_l1]
    simp only [join_eq, hp, Option.bind_some]
    have key : ∀ (g' : Int), 0 ≤ g' → g' ≤ now.length + 1 → ∃ names' bs' fd', (Chk (inB (now.length : Int) y.Times.length) (if decide (nth y.Times (now.length : Int) = 0) = true then (if true = true then Chk (inB (now.length : Int) y.Times.length) (crew_try_l1 now self l b s g (fun x4 x5 x6 x7 => some (x6, x7, x4, x5)) ys (i + 1) bs fd now names) else (if slices_Contains_string now y.Who = true then crew_try_l1 now self l b s g (fun x4 x5 x6 x7 => some (x6, x7, x4, x5)) ys (i + 1) bs fd now names
        else Chk (room now.length) (Chk (inB (now.length : Int) y.Times.length) (Option.bind (self l b (now ++ [y.Who]) names bs fd g' (W (s + nth y.Times (now.length : Int)))) (fun r4 => Chk (cutB 0 (now.length : Int) r4.1.length) (crew_try_l1 now self l b s g (fun x4 x5 x6 x7 => some (x6, x7, x4, x5)) ys (i + 1) r4.2.2.1 r4.2.2.2 (cut r4.1 (0 : Int) (now.length : Int)) r4.2.1))))))
        else if decide (0 < b) = true then (if decide (b < g') = true then Chk (inB (now.length : Int) y.Times.length) (crew_try_l1 now self l b s g (fun x4 x5 x6 x7 => some (x6, x7, x4, x5)) ys (i + 1) bs fd now names) else (if slices_Contains_string now y.Who = true then crew_try_l1 now self l b s g (fun x4 x5 x6 x7 => some (x6, x7, x4, x5)) ys (i + 1) bs fd now names
        else Chk (room now.length) (Chk (inB (now.length : Int) y.Times.length) (Option.bind (self l b (now ++ [y.Who]) names bs fd g' (W (s + nth y.Times (now.length : Int)))) (fun r4 => Chk (cutB 0 (now.length : Int) r4.1.length) (crew_try_l1 now self l b s g (fun x4 x5 x6 x7 => some (x6, x7, x4, x5)) ys (i + 1) r4.2.2.1 r4.2.2.2 (cut r4.1 (0 : Int) (now.length : Int)) r4.2.1))))))
        else if false = true then Chk (inB (now.length : Int) y.Times.length) (crew_try_l1 now self l b s g (fun x4 x5 x6 x7 => some (x6, x7, x4, x5)) ys (i + 1) bs fd now names) else (if slices_Contains_string now y.Who = true then crew_try_l1 now self l b s g (fun x4 x5 x6 x7 => some (x6, x7, x4, x5)) ys (i + 1) bs fd now names
        else Chk (room now.length) (Chk (inB (now.length : Int) y.Times.length) (Option.bind (self l b (now ++ [y.Who]) names bs fd g' (W (s + nth y.Times (now.length : Int)))) (fun r4 => Chk (cutB 0 (now.length : Int) r4.1.length) (crew_try_l1 now self l b s g (fun x4 x5 x6 x7 => some (x6, x7, x4, x5)) ys (i + 1) r4.2.2.1 r4.2.2.2 (cut r4.1 (0 : Int) (now.length : Int)) r4.2.1)))))))
        = some (now, names', bs', fd') ∧ SP l b (fun f => Cp l now f ∧ ∃ y' ∈ y :: ys, f[now.length]? = some y'.Who) (names, bs, fd) (names', bs', fd') := by
      intro g' k0 k1
      rw [chk_pos hin]
      by_cases h0 : nth y.Times (now.length : Int) = 0
      · rw [if_pos (decide_eq_true h0), if_pos rfl, chk_pos hin]
        exact skip fun _ => .inl h0
      · rw [if_neg (by simpa using h0)]
        by_cases hb : 0 < b
        · rw [if_pos (decide_eq_true hb)]
          by_cases hg : b < g'
          · rw [if_pos (decide_eq_true hg), chk_pos hin]
            exact skip fun h => by omega
          · rw [if_neg (by simpa using hg)]
            rcases go g' k0 k1 h0 with ⟨e, h⟩ | h
            · rw [e]; exact skip fun _ => .inr h
            · exact h
        · rw [if_neg (by simpa using hb), if_neg (by simp)]
          rcases go g' k0 k1 h0 with ⟨e, h⟩ | h
          · rw [e]; exact skip fun _ => .inr h
          · exact h
    cases p with
    | true => rw [if_pos rfl, W_in (by omega) (by omega)]; exact key (g + 1) (by omega) (by omega)
    | false => rw [if_neg (by simp)]; exact key g (by omega) (by omega)
theorem try_spec {l : List GLeg} (hl : LGood l) (b : Int) : ∀ (d m : Nat), d < m → TrySpec l b (crew_try m) d
  | d, 0, h => by omega
  | 0, m + 1, _ => by
    intro now names bs fd g s hd hv hs _ _ _ _
    have h4 : now.length = 4 := by omega
    show ∃ names' bs' fd', crew_try_s (crew_try m) l b now names bs fd g s = some (now, names', bs', fd') ∧ _
    unfold crew_try_s
    rw [if_pos (by simp [h4])]
    simp only [join_eq]
    have hcp : ∀ f, Cp l now f → f = now := fun f ⟨h5, _, r, e⟩ => by
      have : r = [] := List.eq_nil_of_length_eq_zero (by rw [e] at h5; simp at h5; omega)
      rw [e, this]; simp
    by_cases hc : ((!fd) || decide (s < bs)) = true
    · rw [if_pos hc]
      unfold slices_Clone_string
      rw [chk_pos (by simp; omega)]
      simp only [Option.bind_some, List.nil_append]
      refine ⟨now, s, true, rfl, ⟨fun h => by simp at h, fun h => by simp at h, fun _ => .inr ⟨h4, hv, hs⟩, fun h => ⟨rfl, ?_⟩, fun _ _ f hf => ?_⟩⟩
      · simp only at h; subst h; simp at hc; show s ≤ bs; omega
      · rw [hcp f hf]; show s ≤ _; omega
    · rw [if_neg hc]
      simp only [Bool.or_eq_true, Bool.not_eq_true', decide_eq_true_eq, not_or] at hc
      refine ⟨names, bs, fd, rfl, ⟨fun h => (hc.1 h).elim, fun h => (hc.1 h).elim, fun h => .inl ⟨h, rfl, rfl⟩, fun h => ⟨h, Int.le_refl _⟩, fun _ _ f hf => ?_⟩⟩
      rw [hcp f hf]; show bs ≤ _; omega
  | d + 1, m + 1, h => by
    intro now names bs fd g s hd hv hs hs0 hs1 hg0 hg1
    show ∃ names' bs' fd', crew_try_s (crew_try m) l b now names bs fd g s = some (now, names', bs', fd') ∧ _
    unfold crew_try_s
    rw [if_neg (by simp; omega)]
    simp only [join_eq]
    obtain ⟨n, b', f, e, h⟩ := try_loop hl b (crew_try m) d (try_spec hl b d m (by omega)) now g s hd hv hs hs0 hs1 hg0 hg1 l 0 bs fd names fun _ h => h
    refine ⟨n, b', f, e, SP.trans (SP.refl (C := fun _ => False) _ fun _ _ h => h) h fun _ q hq => .inr ⟨hq, ?_⟩⟩
    obtain ⟨h5, h6, r, rfl⟩ := hq
    cases r with
    | nil => simp at h5; omega
    | cons z r =>
      have hz : (now ++ z :: r)[now.length]? = some z := by simp
      obtain ⟨y, hy, rfl⟩ := tm_in (h6.2 _ _ hz)
      exact ⟨y, hy, hz⟩
theorem fast_is {l : List GLeg} (hc : swimmer_CheckLegs l = some 0) (hl : LGood l) (b : Int) (hb0 : 0 ≤ b) (hb1 : b ≤ 4) :
    ∃ names bs fd, swimmer_Fastest l b = some (names, bs, fd, 0) ∧ SP l b (Cp l []) ([], 0, false) (names, bs, fd) := by
  unfold swimmer_Fastest
  rw [hc]
  have hw : words_Within b 0 4 = true := by unfold words_Within; simp [hb0, hb1]
  simp only [Option.bind_some, decide_true, Bool.not_true, Bool.false_eq_true, if_false, hw]
  obtain ⟨n, bs, fd, e, h⟩ := try_spec hl b 4 16 (by omega) [] [] 0 false 0 0 rfl ⟨by simp, fun i k h => by simp at h⟩ rfl (Int.le_refl _) (by simp) (Int.le_refl _) (by simp)
  rw [e]
  exact ⟨n, bs, fd, rfl, h⟩
end Go.Proofs.YthefdlbcibhblaaDoor
