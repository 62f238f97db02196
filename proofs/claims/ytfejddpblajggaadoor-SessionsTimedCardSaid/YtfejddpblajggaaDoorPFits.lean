/- How many items fit. No program stands here but its twins. -/
import Derived.Test.YtfejddpblajggaaDoorPBegin
namespace Go.Proofs.YtfejddpblajggaaDoor
open Go

theorem lastTo_app (a b : List GSlot) (t : Int) : lastTo (a ++ b) t = lastTo b (lastTo a t) := by
  unfold lastTo
  rcases List.eq_nil_or_concat b with rfl | ⟨pre, s, rfl⟩
  · simp
  · simp [← List.append_assoc]
/-- Where the next item begins. -/
def nt : List GItem → Int → Int
  | [], t => t
  | y :: ys, t => nt ys (endH y y.Heats.toNat t + y.Break)
theorem tt_app : ∀ (a b : List GItem) (t : Int), tt (a ++ b) t = tt a t ++ tt b (nt a t)
  | [], _, _ => rfl
  | y :: a, b, t => by simp [tt, nt, tt_app a b]
theorem lastTo_hs (y : GItem) (k : Nat) (h t u : Int) : lastTo (hs y (k + 1) h t) u = endH y (k + 1) t := by
  obtain ⟨pre, s, e1, e2⟩ := hs_last y k h t
  rw [e1, ← e2]
  simp [lastTo]
theorem last_le_nt : ∀ (l : List GItem) (t : Int), (∀ x ∈ l, Good x) → t ≤ nt l t ∧ lastTo (tt l t) t ≤ nt l t
  | [], t, _ => ⟨Int.le_refl _, Int.le_refl _⟩
  | y :: l, t, hg => by
    have hy := hg y List.mem_cons_self
    have hgood := hy
    unfold Good at hgood
    have hb := endH_bounds y hy y.Heats.toNat t
    obtain ⟨h1, h2⟩ := last_le_nt l (endH y y.Heats.toNat t + y.Break) (fun x hx => hg x (List.mem_cons_of_mem _ hx))
    obtain ⟨k, hk⟩ : ∃ k, y.Heats.toNat = k + 1 := ⟨y.Heats.toNat - 1, by omega⟩
    simp only [nt, tt]
    refine ⟨by omega, ?_⟩
    rw [lastTo_app, hk, lastTo_hs, ← hk]
    cases hl : tt l (endH y y.Heats.toNat t + y.Break) with
    | nil => simp only [lastTo, List.getLast?_nil]; omega
    | cons a r =>
      have e : ∀ u v, lastTo (a :: r) u = lastTo (a :: r) v := fun u v => by
        unfold lastTo
        cases hx : (a :: r).getLast? with
        | none => simp at hx
        | some _ => rfl
      rw [hl] at h2
      rw [e _ (endH y y.Heats.toNat t + y.Break)]
      exact h2
/-- An item more ends no sooner. -/
theorem ends_grow (a : List GItem) (y : GItem) (t : Int) (hg : ∀ x ∈ a, Good x) (hy : Good y) : lastTo (tt a t) t ≤ lastTo (tt (a ++ [y]) t) t := by
  have h1 := (last_le_nt a t hg).2
  have hgood := hy
  unfold Good at hgood
  have hb := endH_bounds y hy y.Heats.toNat (nt a t)
  obtain ⟨k, hk⟩ : ∃ k, y.Heats.toNat = k + 1 := ⟨y.Heats.toNat - 1, by omega⟩
  rw [tt_app, lastTo_app]
  simp only [tt, List.append_nil]
  rw [hk, lastTo_hs, ← hk]
  omega
def ends (l : List GItem) (t : Int) (n : Nat) : Int := lastTo (tt (l.take n) t) t
theorem take_next {α : Type} (dn ys : List α) (y : α) : (dn ++ y :: ys).take (dn.length + 1) = dn ++ [y] := by
  rw [List.take_length_add_append]; simp
def fitN (l : List GItem) (t to_ : Int) : List GItem → Nat → Nat
  | [], n => n
  | _ :: ys, n => if ends l t (n + 1) ≤ to_ then fitN l t to_ ys (n + 1) else n
theorem ends_step (l dn ys : List GItem) (y : GItem) (t : Int) (hl : l = dn ++ y :: ys) (hg : ∀ x ∈ l, Good x) : ends l t dn.length ≤ ends l t (dn.length + 1) := by
  unfold ends
  subst hl
  rw [take_next, List.take_left' rfl]
  exact ends_grow dn y t (fun x hx => hg x (by simp [hx])) (hg y (by simp))
theorem fits_prog (l : List GItem) (w : GWindow) (j1 : Int → Option (Int × Int)) (hg : ∀ x ∈ l, Good x) (h100 : l.length ≤ 100) (h0 : 0 ≤ w.From) (h1 : w.From ≤ 345686400000) : ∀ (ys dn : List GItem) (m : Nat), l = dn ++ ys → ys.length < m →
    session_Fits_l1 l w j1 m (dn.length : Int) = j1 (fitN l w.From w.To ys dn.length : Nat) := by
  intro ys
  induction ys with
  | nil =>
    intro dn m hl hm
    obtain ⟨m', rfl⟩ : ∃ m', m = m' + 1 := ⟨m - 1, by omega⟩
    rw [session_Fits_l1, join_eq, if_neg (by subst hl; simp)]
    simp [fitN]
  | cons y ys ih =>
    intro dn m hl hm
    obtain ⟨m', rfl⟩ : ∃ m', m = m' + 1 := ⟨m - 1, by omega⟩
    have hlen : l.length = dn.length + ys.length + 1 := by subst hl; simp; omega
    have w1 : W ((dn.length : Int) + 1) = ((dn.length + 1 : Nat) : Int) := by rw [W_in (by omega) (by omega)]; push_cast; rfl
    have hc : cutB 0 ((dn.length + 1 : Nat) : Int) l.length = true := cutB_iff.2 ⟨by omega, by omega, by omega⟩
    have hcut : cut l 0 ((dn.length + 1 : Nat) : Int) = l.take (dn.length + 1) := by simp [cut]
    have hgt : ∀ x ∈ l.take (dn.length + 1), Good x := fun x hx => hg x (List.mem_of_mem_take hx)
    have hlt : (l.take (dn.length + 1)).length ≤ 100 := by rw [List.length_take]; omega
    have htl := tt_len (l.take (dn.length + 1)) w.From hgt
    rw [session_Fits_l1, join_eq, if_pos (by simp; omega), w1, chk_pos hc, hcut, timetable_eq _ _ hgt hlt h0 h1]
    simp only [Option.bind_some]
    rw [end_eq _ _ (by omega)]
    simp only [Option.bind_some]
    by_cases hle : ends l w.From (dn.length + 1) ≤ w.To
    · have h := ih (dn ++ [y]) m' (by rw [hl]; simp) (by simp at hm; omega)
      rw [List.length_append, List.length_singleton] at h
      rw [if_pos (by unfold ends at hle; simpa using hle), h]
      simp [fitN, hle]
    · rw [if_neg (by unfold ends at hle; simpa using hle)]
      simp [fitN, hle]
theorem fits_doc_stop (l : List GItem) (w : GWindow) (hg : ∀ x ∈ l, Good x) (h100 : l.length ≤ 100) (h0 : 0 ≤ w.From) (h1 : w.From ≤ 345686400000) : ∀ (ys dn : List GItem) (x1 : Int), l = dn ++ ys → (ys ≠ [] → w.To < ends l w.From (dn.length + 1)) →
    tumbref2_FitsOf_l1 l w (fun x => some x) ys dn.length x1 = some x1 := by
  intro ys
  induction ys with
  | nil => intro dn x1 _ _; rfl
  | cons y ys ih =>
    intro dn x1 hl hgt
    have hlen : l.length = dn.length + ys.length + 1 := by subst hl; simp; omega
    have w1 : W ((dn.length : Int) + 1) = ((dn.length + 1 : Nat) : Int) := by rw [W_in (by omega) (by omega)]; push_cast; rfl
    have hc : cutB 0 ((dn.length + 1 : Nat) : Int) l.length = true := cutB_iff.2 ⟨by omega, by omega, by omega⟩
    have hcut : cut l 0 ((dn.length + 1 : Nat) : Int) = l.take (dn.length + 1) := by simp [cut]
    have hgd : ∀ x ∈ l.take (dn.length + 1), Good x := fun x hx => hg x (List.mem_of_mem_take hx)
    have hlt : (l.take (dn.length + 1)).length ≤ 100 := by rw [List.length_take]; omega
    have hnle := hgt (by simp)
    rw [tumbref2_FitsOf_l1]
    simp only [join_eq]
    rw [w1, chk_pos hc, hcut, endOf_eq _ _ hgd hlt h0 h1]
    simp only [Option.bind_some]
    rw [if_neg (by unfold ends at hnle; simp; omega)]
    have h := ih (dn ++ [y]) x1 (by rw [hl]; simp) (fun hne => ?_)
    · rw [List.length_append, List.length_singleton] at h
      exact h
    · obtain ⟨z, zs, rfl⟩ := List.exists_cons_of_ne_nil hne
      have hs := ends_step l (dn ++ [y]) zs z w.From (by rw [hl]; simp) hg
      rw [List.length_append, List.length_singleton] at hs ⊢
      omega
theorem fits_doc (l : List GItem) (w : GWindow) (hg : ∀ x ∈ l, Good x) (h100 : l.length ≤ 100) (h0 : 0 ≤ w.From) (h1 : w.From ≤ 345686400000) : ∀ (ys dn : List GItem), l = dn ++ ys →
    tumbref2_FitsOf_l1 l w (fun x => some x) ys dn.length (dn.length : Int) = some ((fitN l w.From w.To ys dn.length : Nat) : Int) := by
  intro ys
  induction ys with
  | nil => intro dn _; rfl
  | cons y ys ih =>
    intro dn hl
    have hlen : l.length = dn.length + ys.length + 1 := by subst hl; simp; omega
    have w1 : W ((dn.length : Int) + 1) = ((dn.length + 1 : Nat) : Int) := by rw [W_in (by omega) (by omega)]; push_cast; rfl
    have hc : cutB 0 ((dn.length + 1 : Nat) : Int) l.length = true := cutB_iff.2 ⟨by omega, by omega, by omega⟩
    have hcut : cut l 0 ((dn.length + 1 : Nat) : Int) = l.take (dn.length + 1) := by simp [cut]
    have hgd : ∀ x ∈ l.take (dn.length + 1), Good x := fun x hx => hg x (List.mem_of_mem_take hx)
    have hlt : (l.take (dn.length + 1)).length ≤ 100 := by rw [List.length_take]; omega
    rw [tumbref2_FitsOf_l1]
    simp only [join_eq]
    rw [w1, chk_pos hc, hcut, endOf_eq _ _ hgd hlt h0 h1]
    simp only [Option.bind_some]
    by_cases hle : ends l w.From (dn.length + 1) ≤ w.To
    · rw [if_pos (by unfold ends at hle; simpa using hle)]
      have h := ih (dn ++ [y]) (by rw [hl]; simp)
      rw [List.length_append, List.length_singleton] at h
      rw [h]
      simp [fitN, hle]
    · rw [if_neg (by unfold ends at hle; simpa using hle)]
      have h := fits_doc_stop l w hg h100 h0 h1 ys (dn ++ [y]) (dn.length : Int) (by rw [hl]; simp) (fun hne => ?_)
      · rw [List.length_append, List.length_singleton] at h
        rw [h]
        simp [fitN, hle]
      · obtain ⟨z, zs, rfl⟩ := List.exists_cons_of_ne_nil hne
        have hs := ends_step l (dn ++ [y]) zs z w.From (by rw [hl]; simp) hg
        rw [List.length_append, List.length_singleton] at hs ⊢
        omega
end Go.Proofs.YtfejddpblajggaaDoor
