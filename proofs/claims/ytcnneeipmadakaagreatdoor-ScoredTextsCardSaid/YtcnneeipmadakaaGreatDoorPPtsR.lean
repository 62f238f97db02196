/- Points of races: the rows of one race each, and what each row gets: a whole number of sixtieths. Conditions: not more than five rows of one race, a small table. No program stands here but its twins. -/
import Derived.Test.YtcnneeipmadakaaGreatDoorPFrac
import Derived.Test.YtcnneeipmadakaaGreatDoorPList
namespace Go.Proofs.YtcnneeipmadakaaGreatDoor
open Go
def One (g : List GScored) : Prop := g ≠ [] ∧ ∀ x ∈ g, ∀ y ∈ g, x.Race = y.Race
theorem races_l2 (pl pre g post : List GScored) (hp : pl = pre ++ (g ++ post)) (hg : One g) (hn : ∀ x ∈ g, ∀ y, post.head? = some y → x.Race ≠ y.Race) (hl : pl.length ≤ 1000) (j : Int → Option (List (List GScored))) :
    ∀ (d m k : Nat), g.length = k + d → 1 ≤ k → d < m → points_races_l2 pl (pre.length : Int) j m ((pre.length + k : Nat) : Int) = j ((pre.length + g.length : Nat) : Int)
  | d, 0, _, _, _, h => by omega
  | d, m + 1, k, h1, h2, h3 => by
    have hlen : pl.length = pre.length + (g.length + post.length) := by rw [hp]; simp
    rw [points_races_l2]
    simp only [join_eq]
    have hn0 : ∃ g0 gs, g = g0 :: gs := by
      cases g with
      | nil => exact (hg.1 rfl).elim
      | cons a b => exact ⟨a, b, rfl⟩
    obtain ⟨g0, gs, e0⟩ := hn0
    have h0 : nth pl (pre.length : Int) = g0 := by rw [hp, e0]; exact nth_mid pre g0 (gs ++ post) rfl
    have hb0 : inB (pre.length : Int) pl.length = true := inB_iff.2 (by rw [hlen, e0]; simp; omega)
    cases d with
    | zero =>
      have hk : k = g.length := by omega
      subst hk
      cases post with
      | nil =>
        simp only [List.length_nil, Nat.add_zero] at hlen
        rw [if_neg (by rw [hlen]; simp)]
        simp only [hlen, Int.lt_irrefl, decide_false, Bool.false_and, Bool.false_eq_true, if_false]
      | cons y post =>
        have hy : nth pl ((pre.length + g.length : Nat) : Int) = y := by
          have : pl = (pre ++ g) ++ y :: post := by rw [hp]; simp
          rw [this]; exact nth_mid (pre ++ g) y post (by simp)
        have hb : inB ((pre.length + g.length : Nat) : Int) pl.length = true := inB_iff.2 (by rw [hlen]; simp; omega)
        rw [if_pos (by rw [hlen]; simp; omega), chk_pos hb, chk_pos hb0, hy, h0]
        have hne : decide (y.Race = g0.Race) = false := decide_eq_false fun e => hn g0 (by rw [e0]; simp) y rfl e.symm
        rw [hne, Bool.and_false, if_neg (by simp)]
    | succ d =>
      have hkg : k < g.length := by omega
      have hk : nth pl ((pre.length + k : Nat) : Int) = g[k] := by
        unfold nth
        rw [Int.toNat_natCast, List.getD, hp, List.getElem?_append_right (by omega), Nat.add_sub_cancel_left, List.getElem?_append_left hkg, List.getElem?_eq_getElem hkg]; rfl
      have hb : inB ((pre.length + k : Nat) : Int) pl.length = true := inB_iff.2 (by rw [hlen]; omega)
      have hlt : ((pre.length + k : Nat) : Int) < (pl.length : Int) := by rw [hlen]; omega
      rw [if_pos (decide_eq_true hlt), chk_pos hb, chk_pos hb0, hk, h0]
      have heq : g[k].Race = g0.Race := hg.2 _ (List.getElem_mem hkg) _ (by rw [e0]; simp)
      rw [if_pos (by simp only [heq, decide_true, Bool.and_true]; exact decide_eq_true hlt), W_in (by omega) (by omega)]
      have := races_l2 pl pre g post hp hg hn hl j d m (k + 1) (by omega) (by omega) (by omega)
      rw [show ((pre.length + k : Nat) : Int) + 1 = ((pre.length + (k + 1) : Nat) : Int) by omega]
      exact this
theorem races_l1 (pl : List GScored) (hl : pl.length ≤ 1000) (j : List (List GScored) → Option (List (List GScored))) : ∀ (Gs : List (List GScored)) (pre : List GScored) (x1 : List (List GScored)) (m : Nat), pl = pre ++ Gs.flatten → Gs.length < m → x1.length + Gs.length ≤ 10000 →
    (∀ g ∈ Gs, One g) → Gs.Pairwise (fun g g' => ∀ x ∈ g, ∀ y ∈ g', x.Race ≠ y.Race) → points_races_l1 pl j m x1 (pre.length : Int) = j (x1 ++ Gs)
  | Gs, pre, x1, 0, _, h, _, _, _ => by omega
  | [], pre, x1, m + 1, h1, _, _, _, _ => by
    have : pl.length = pre.length := by rw [h1]; simp
    rw [points_races_l1, if_neg (by rw [this]; simp), List.append_nil]
  | g :: Gs, pre, x1, m + 1, h1, h2, h3, h4, h5 => by
    have hg := h4 g List.mem_cons_self
    have hpos : 0 < g.length := List.length_pos_iff.2 hg.1
    have hp : pl = pre ++ (g ++ Gs.flatten) := by rw [h1]; simp
    have hlen : pl.length = pre.length + (g.length + Gs.flatten.length) := by rw [hp]; simp
    obtain ⟨p1, p2⟩ := List.pairwise_cons.1 h5
    rw [points_races_l1, if_pos (by rw [hlen]; simp; omega)]
    simp only [join_eq]
    have hhead : ∀ x ∈ g, ∀ y, Gs.flatten.head? = some y → x.Race ≠ y.Race := by
      intro x hx y hy
      cases Gs with
      | nil => simp at hy
      | cons g' Gs =>
        have hg' := h4 g' (by simp)
        cases g' with
        | nil => exact (hg'.1 rfl).elim
        | cons a b => simp at hy; subst hy; exact p1 (a :: b) List.mem_cons_self x hx a List.mem_cons_self
    have hk := races_l2 pl pre g Gs.flatten hp hg hhead hl (fun x3 => Chk (cutB (pre.length : Int) x3 pl.length) (Chk (room x1.length) (points_races_l1 pl j m (x1 ++ [cut pl (pre.length : Int) x3]) x3))) (g.length - 1) (((pl.length : Int) - (W ((pre.length : Int) + 1))).toNat + 2) 1 (by omega) (by omega) (by rw [W_in (by omega) (by omega)]; omega)
    rw [W_in (by omega) (by omega)] at hk ⊢
    rw [show (pre.length : Int) + 1 = ((pre.length + 1 : Nat) : Int) by omega] at hk ⊢
    rw [hk, chk_pos (cutB_iff.2 (by omega)), chk_pos (by unfold room; simp; simp at h3; omega)]
    have hcut : cut pl (pre.length : Int) ((pre.length + g.length : Nat) : Int) = g := by
      unfold cut
      rw [hp, Int.toNat_natCast, Int.toNat_natCast, ← List.append_assoc, List.take_left' (by simp), List.drop_left]
    rw [hcut]
    have ih := races_l1 pl hl j Gs (pre ++ g) (x1 ++ [g]) m (by rw [hp]; simp) (by simp at h2; omega) (by simp at h3 ⊢; omega) (fun g' h' => h4 g' (List.mem_cons_of_mem _ h')) p2
    rw [List.length_append] at ih
    rw [ih]; simp
theorem flat_le : ∀ (Gs : List (List GScored)), (∀ g ∈ Gs, One g) → Gs.length ≤ Gs.flatten.length
  | [], _ => by simp
  | g :: Gs, h => by
    have := flat_le Gs fun g' h' => h g' (List.mem_cons_of_mem _ h')
    have := List.length_pos_iff.2 (h g List.mem_cons_self).1
    rw [List.flatten_cons, List.length_append, List.length_cons]; omega
theorem races_is (Gs : List (List GScored)) (h1 : ∀ g ∈ Gs, One g) (h2 : Gs.Pairwise (fun g g' => ∀ x ∈ g, ∀ y ∈ g', x.Race ≠ y.Race)) (hl : Gs.flatten.length ≤ 1000) : points_races Gs.flatten = some Gs := by
  unfold points_races
  simp only [join_eq]
  have hf := flat_le Gs h1
  have := races_l1 Gs.flatten hl (fun x1 => some x1) Gs [] [] (((Gs.flatten.length : Int) - 0).toNat + 2) rfl (by omega) (by simp; omega) h1 h2
  simpa using this
end Go.Proofs.YtcnneeipmadakaaGreatDoor
