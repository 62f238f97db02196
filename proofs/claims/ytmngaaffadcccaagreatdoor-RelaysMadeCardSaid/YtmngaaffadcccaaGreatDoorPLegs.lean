/- Legs: the program's check; what the stream gives; the search for the fastest relay, by its recursion. Conditions: the twins of package swimmer. -/
import Derived.Test.YtmngaaffadcccaaGreatDoorPKey2
import Derived.Test.YtmngaaffadcccaaGreatDoorPMembers
import Derived.Test.YtmngaaffadcccaaGreatDoorPStr
import Derived.Test.YtmngaaffadcccaaGreatDoorPList
namespace Go.Proofs.YtmngaaffadcccaaGreatDoor
open Go
/-- Legs as they must be. -/
structure LGood (l : List GLeg) : Prop where
  len : l.length ≤ 12
  four : ∀ x ∈ l, x.Times.length = 4
  rng : ∀ x ∈ l, ∀ t ∈ x.Times, 0 ≤ t ∧ t ≤ 360000
  sort : l.Pairwise fun x y => cB x.Who y.Who < 0
theorem legs_l2 (j : Option Int) : ∀ (ts : List Int) (i : Nat), swimmer_CheckLegs_l2 j ts i = if ts.any (fun t => !(words_Within t 0 360000)) then some 1 else j
  | [], _ => rfl
  | t :: ts, i => by
    rw [swimmer_CheckLegs_l2, legs_l2 j ts, List.any_cons]
    cases words_Within t 0 360000 with
    | true => simp only [Bool.not_true, Bool.false_eq_true, if_false, Bool.false_or]
    | false => simp only [Bool.not_false, if_true, Bool.true_or]
/-! ### What the stream gives -/
section
variable {L : List Int} (hL : LongL L)
include hL
theorem legs_s2 (j : List Int → Int → Option (List GLeg × Int)) : ∀ (k m : Nat) (x5 : List Int) (a x7 : Int), 0 ≤ x7 → 4 - x7 ≤ (k : Int) → x7 ≤ 4 → k < m → 0 ≤ a → a + k ≤ 1000000000 → x5.length = x7.toNat →
    ∃ x b, Stream_Legs_l2 L j m x5 a x7 = j x b ∧ a ≤ b ∧ b ≤ a + k ∧ x.length = 4
  | k, 0, _, _, _, _, _, _, h, _, _, _ => absurd h (by omega)
  | k, m + 1, x5, a, x7, h1, h2, h3, h4, h5, h6, h7 => by
    rw [Stream_Legs_l2]
    by_cases hc : x7 < 4
    · rw [if_pos (decide_eq_true hc)]
      obtain ⟨k, rfl⟩ : ∃ q, k = q + 1 := ⟨k - 1, by omega⟩
      obtain ⟨v, b, e, g1, g2, _⟩ := pick_dr hL h5 (by omega) [0, 10, 11, 12, 12, 13, 15] (by simp) (by simp)
      rw [e]; simp only [Option.bind_some]
      rw [chk_pos (by unfold room; simp; omega), W_in (by omega) (by omega)]
      obtain ⟨x, c, r1, r2, r3, r4⟩ := legs_s2 j k m (x5 ++ [v]) b (x7 + 1) (by omega) (by omega) (by omega) (by omega) (by omega) (by omega) (by simp; omega)
      exact ⟨x, c, r1, by omega, by omega, r4⟩
    · rw [if_neg (by simpa using hc)]
      exact ⟨x5, a, rfl, by omega, by omega, by omega⟩
theorem legs_s1 : ∀ (ys : List ByteArray) (i : Nat) (x1 : List GLeg) (a : Int), 0 ≤ a → a + 11 * ys.length ≤ 1000000 → x1.length + ys.length ≤ 1000 →
    ∃ x b, Stream_Legs_l1 L (fun x a => some (x, a)) ys i x1 a = some (x, b) ∧ a ≤ b ∧ b ≤ a + 11 * ys.length ∧ x.length ≤ x1.length + ys.length
  | [], i, x1, a, _, _, _ => ⟨x1, a, rfl, Int.le_refl _, by simp, by simp⟩
  | y :: ys, i, x1, a, h0, h1, h2 => by
    rw [Stream_Legs_l1]
    simp only [List.length_cons] at h1 h2 ⊢
    obtain ⟨f, b, e, g1, g2, _⟩ := flip_dr hL h0 (by omega) 6 (by omega)
    rw [e]; simp only [Option.bind_some, join_eq]
    cases f with
    | true =>
      rw [if_pos rfl]
      obtain ⟨x, c, e', g3, g4, g5⟩ := legs_s1 ys (i + 1) x1 b (by omega) (by omega) (by omega)
      exact ⟨x, c, e', by omega, by omega, by omega⟩
    | false =>
      rw [if_neg (by simp)]
      obtain ⟨ts, c, e2, g3, g4, g5⟩ := legs_s2 hL (fun (x5 : List Int) (x6 : Int) => Option.bind (Stream_Flip L x6 60) (fun r3 => if r3.1 = true then
        Option.bind (Stream_Some L r3.2 [y, k_empty, k_aa]) (fun r4 => Option.bind (Stream_Range L r4.2 3 4) (fun r5 => Chk (cutB 0 r5.1 x5.length) (Option.bind (Stream_Odd L r5.2 0 20) (fun r6 => Chk (inB 0 (cut x5 (0 : Int) r5.1).length) (
          Chk (room x1.length) (Stream_Legs_l1 L (fun x a => some (x, a)) ys (i + 1) (x1 ++ [(GLeg.mk r4.1 ((cut x5 (0 : Int) r5.1).set ((0 : Int).toNat) r6.1))]) r6.2))))))
        else Chk (room x1.length) (Stream_Legs_l1 L (fun x a => some (x, a)) ys (i + 1) (x1 ++ [(GLeg.mk y x5)]) r3.2))) 4 6 [] b 0 (by omega) (by omega) (by omega) (by omega) (by omega) (by omega) rfl
      rw [e2]
      obtain ⟨f, d, e3, g6, g7, _⟩ := flip_dr hL (a := c) (by omega) (by omega) 60 (by omega)
      rw [e3]; simp only [Option.bind_some]
      cases f with
      | false =>
        rw [if_neg (by simp), chk_pos (by unfold room; simp; omega)]
        obtain ⟨x, c, e', q3, q4, q5⟩ := legs_s1 ys (i + 1) (x1 ++ [GLeg.mk y ts]) d (by omega) (by omega) (by simp; omega)
        simp only [List.length_append, List.length_singleton] at q5
        exact ⟨x, c, e', by omega, by omega, by omega⟩
      | true =>
        rw [if_pos rfl]
        obtain ⟨s, d1, p1, u1, v1, _⟩ := some_dr hL (a := d) (by omega) (by omega) [y, k_empty, k_aa] (by simp) (by simp)
        rw [p1]; simp only [Option.bind_some]
        obtain ⟨n, d2, p2, u2, v2, w2⟩ := range_dr hL (a := d1) (by omega) (by omega) 3 4 (by omega) (by omega) (by omega)
        rw [p2]; simp only [Option.bind_some]
        rw [chk_pos (cutB_iff.2 (by omega))]
        obtain ⟨o, d3, p3, u3, v3, _⟩ := odd_dr hL (a := d2) (by omega) (by omega) 0 20 (by omega) (by omega) (by omega)
        rw [p3]; simp only [Option.bind_some]
        have hcl : (cut ts 0 n).length = n.toNat := by simp [cut]; omega
        rw [chk_pos (inB_iff.2 (by omega)), chk_pos (by unfold room; simp; omega)]
        obtain ⟨x, c, e', q3, q4, q5⟩ := legs_s1 ys (i + 1) (x1 ++ [GLeg.mk s ((cut ts 0 n).set ((0 : Int).toNat) o)]) d3 (by omega) (by omega) (by simp; omega)
        simp only [List.length_append, List.length_singleton] at q5
        exact ⟨x, c, e', by omega, by omega, by omega⟩
theorem legs_dr {a : Int} (h0 : 0 ≤ a) (h1 : a ≤ 100000) : Dr a 66 (fun x => x.length ≤ 6) (Stream_Legs L a) := by
  unfold Stream_Legs
  simp only [join_eq]
  obtain ⟨x, c, e', g7, g8, g9⟩ := legs_s1 hL [k_aa, k_bb, k_cc, k_xa, k_xb, k_xc] 0 [] a h0 (by simp; omega) (by simp)
  exact ⟨x, c, e', g7, by simp at g8; omega, by simpa using g9⟩
end
/-! ### The search -/
/-- The time of somebody on a leg; 0: none. -/
def tm (l : List GLeg) (k : ByteArray) (i : Nat) : Int := match l.find? (fun x => decide (x.Who = k)) with
  | none => 0
  | some x => nth x.Times (i : Int)
def totF (l : List GLeg) : List ByteArray → Nat → Int
  | [], _ => 0
  | k :: ks, i => tm l k i + totF l ks (i + 1)
/-- A part of a relay: nobody twice, everybody with a time. -/
def Vd (l : List GLeg) (f : List ByteArray) : Prop := f.Nodup ∧ ∀ i k, f[i]? = some k → tm l k i ≠ 0
abbrev BS := List ByteArray × Int × Bool
/-- From one state of the search to a later one, when relays C have been tried (all of them, where b has no bound). -/
structure SP (l : List GLeg) (b : Int) (C : List ByteArray → Prop) (p q : BS) : Prop where
  no : q.2.2 = false → p.2.2 = false ∧ q.1 = p.1 ∧ q.2.1 = p.2.1
  none : q.2.2 = false → b ≤ 0 → ∀ f, ¬ C f
  src : q.2.2 = true → (p.2.2 = true ∧ q.1 = p.1 ∧ q.2.1 = p.2.1) ∨ (q.1.length = 4 ∧ Vd l q.1 ∧ q.2.1 = totF l q.1 0)
  old : p.2.2 = true → q.2.2 = true ∧ q.2.1 ≤ p.2.1
  least : q.2.2 = true → b ≤ 0 → ∀ f, C f → q.2.1 ≤ totF l f 0
theorem SP.refl {l : List GLeg} {b : Int} {C : List ByteArray → Prop} (p : BS) (h : b ≤ 0 → ∀ f, ¬ C f) : SP l b C p p :=
  ⟨fun h => ⟨h, rfl, rfl⟩, fun _ => h, fun h => .inl ⟨h, rfl, rfl⟩, fun h => ⟨h, Int.le_refl _⟩, fun _ hb f hf => (h hb f hf).elim⟩
theorem SP.trans {l : List GLeg} {b : Int} {C1 C2 C : List ByteArray → Prop} {p q r : BS} (h : SP l b C1 p q) (k : SP l b C2 q r) (hC : b ≤ 0 → ∀ f, C f → C1 f ∨ C2 f) : SP l b C p r := by
  refine ⟨fun e => ?_, fun e hb f hf => ?_, fun e => ?_, fun e => ?_, fun e hb f hf => ?_⟩
  · obtain ⟨a1, a2, a3⟩ := k.no e
    obtain ⟨b1, b2, b3⟩ := h.no a1
    exact ⟨b1, a2.trans b2, a3.trans b3⟩
  · rcases hC hb f hf with h1 | h1
    · exact h.none (k.no e).1 hb f h1
    · exact k.none e hb f h1
  · rcases k.src e with ⟨a1, a2, a3⟩ | a
    · rcases h.src a1 with ⟨b1, b2, b3⟩ | b
      · exact .inl ⟨b1, a2.trans b2, a3.trans b3⟩
      · exact .inr (by rw [a2, a3]; exact b)
    · exact .inr a
  · obtain ⟨a1, a2⟩ := h.old e
    obtain ⟨b1, b2⟩ := k.old a1
    exact ⟨b1, by omega⟩
  · rcases hC hb f hf with h1 | h1
    · cases hq : q.2.2 with
      | false => exact (h.none hq hb f h1).elim
      | true =>
        have := h.least hq hb f h1
        have := (k.old hq).2
        omega
    · exact k.least e hb f h1
theorem nth_mem {α : Type} [Inhabited α] {l : List α} {e : Int} (h : inB e l.length = true) : nth l e ∈ l := List.mem_of_getElem? (inB_get h).1
end Go.Proofs.YtmngaaffadcccaaGreatDoor
