/- Loops over lists in general: what is picked and appended, what is contained, lists that are equal, neighbours that are struck. Conditions: the lists are not long; the loops' equations are given. No program stands here. -/
import Derived.Test.YtnmojfimananjaaGreatDoorPSort
namespace Go.Proofs.YtnmojfimananjaaGreatDoor
open Go
section
variable {α β R : Type}
/-- What a loop picks, by the element and its place. -/
def sel (P : α → Nat → Bool) (f : α → Nat → β) : List α → Nat → List β
  | [], _ => []
  | y :: ys, i => if P y i then f y i :: sel P f ys (i + 1) else sel P f ys (i + 1)
theorem sel_len (P : α → Nat → Bool) (f : α → Nat → β) : ∀ (l : List α) (i : Nat), (sel P f l i).length ≤ l.length
  | [], _ => Nat.le_refl _
  | y :: ys, i => by
    unfold sel
    have := sel_len P f ys (i + 1)
    split
    · simp only [List.length_cons]; omega
    · simp only [List.length_cons]; omega
theorem sel_app (P : α → Nat → Bool) (f : α → Nat → β) : ∀ (a b : List α) (i : Nat), sel P f (a ++ b) i = sel P f a i ++ sel P f b (i + a.length)
  | [], b, i => by simp [sel]
  | y :: a, b, i => by
    simp only [List.cons_append, sel, sel_app P f a b (i + 1), List.length_cons]
    rw [show i + 1 + a.length = i + (a.length + 1) by omega]
    split <;> rfl
theorem sel_congr {P Q : α → Nat → Bool} {f g : α → Nat → β} : ∀ (l : List α) (i : Nat), (∀ k y, l[k]? = some y → P y (i + k) = Q y (i + k) ∧ (P y (i + k) = true → f y (i + k) = g y (i + k))) → sel P f l i = sel Q g l i
  | [], _, _ => rfl
  | y :: ys, i, h => by
    obtain ⟨h1, h2⟩ := h 0 y rfl
    have ih := sel_congr (P := P) (Q := Q) (f := f) (g := g) ys (i + 1) fun k z hz => by
      have := h (k + 1) z (by simpa using hz)
      rwa [show i + (k + 1) = i + 1 + k by omega] at this
    unfold sel
    rw [ih]
    simp only [Nat.add_zero] at h1 h2
    rw [← h1]
    split
    · rename_i hp; rw [h2 hp]
    · rfl
theorem sel_plain (P : α → Bool) (f : α → β) : ∀ (l : List α) (i : Nat), sel (fun y _ => P y) (fun y _ => f y) l i = (l.filter P).map f
  | [], _ => rfl
  | y :: ys, i => by
    unfold sel
    rw [sel_plain P f ys (i + 1), List.filter_cons]
    split <;> rfl
/-- A loop that picks and appends. -/
theorem app_l (P : α → Nat → Bool) (f : α → Nat → β) (j : List β → Option R) (F : List α → Nat → List β → Option R) (h0 : ∀ i x, F [] i x = j x) (l : List α) (hl : l.length < 1073741824) (c0 : Nat) (hc0 : c0 + l.length < 1073741824)
    (h1 : ∀ (dn : List α) (y : α) (ys : List α) (x : List β), l = dn ++ y :: ys → x.length ≤ c0 + dn.length → F (y :: ys) dn.length x = if P y dn.length then Chk (room x.length) (F ys (dn.length + 1) (x ++ [f y dn.length])) else F ys (dn.length + 1) x) :
    ∀ (ys dn : List α) (x : List β), l = dn ++ ys → x.length ≤ c0 + dn.length → F ys dn.length x = j (x ++ sel P f ys dn.length)
  | [], dn, x, _, _ => by rw [h0]; simp [sel]
  | y :: ys, dn, x, h, hx => by
    have hlen : l.length = dn.length + (ys.length + 1) := by rw [h]; simp
    have h' : l = (dn ++ [y]) ++ ys := by rw [h]; simp
    have e : (dn ++ [y]).length = dn.length + 1 := by simp
    rw [h1 dn y ys x h hx]
    unfold sel
    cases hp : P y dn.length with
    | true =>
      simp only [if_true]
      rw [chkT (by unfold room; simp; omega)]
      have ih := app_l P f j F h0 l hl c0 hc0 h1 ys (dn ++ [y]) (x ++ [f y dn.length]) h' (by rw [e]; simp; omega)
      rw [e] at ih
      rw [ih]
      simp
    | false =>
      simp only [Bool.false_eq_true, if_false]
      have ih := app_l P f j F h0 l hl c0 hc0 h1 ys (dn ++ [y]) x h' (by rw [e]; omega)
      rw [e] at ih
      exact ih
/-- The plain case: from the empty list. -/
theorem app_0 (P : α → Bool) (f : α → β) (j : List β → Option R) (F : List α → Nat → List β → Option R) (h0 : ∀ i x, F [] i x = j x) (l : List α) (hl : l.length < 1073741824)
    (h1 : ∀ (y : α) (ys : List α) (i : Nat) (x : List β), F (y :: ys) i x = if P y then Chk (room x.length) (F ys (i + 1) (x ++ [f y])) else F ys (i + 1) x) : F l 0 [] = j ((l.filter P).map f) := by
  have := app_l (fun y _ => P y) (fun y _ => f y) j F h0 l hl 0 (by omega) (fun dn y ys x _ _ => h1 y ys dn.length x) l [] [] rfl (by simp)
  rw [List.length_nil, sel_plain] at this
  exact this
/-- What is contained. -/
theorem any_l (p : α → Bool) (F : List α → Nat → Int) (h0 : ∀ i, F [] i = -1) (h1 : ∀ y ys i, F (y :: ys) i = if p y then (i : Int) else F ys (i + 1)) (l : List α) : decide (0 ≤ F l 0) = l.any p := by
  rcases find_l (fun y k => k (p y)) p (-1) id F h0 h1 l 0 (fun _ _ _ => rfl) with ⟨pre, y, post, e, g1, g2, g3⟩ | ⟨g1, g2⟩
  · rw [g3, e]
    have : (pre ++ y :: post).any p = true := by simp [g2]
    rw [this]
    exact decide_eq_true (by show (0 : Int) ≤ ((0 + pre.length : Nat) : Int); omega)
  · rw [g2]
    have : l.any p = false := List.any_eq_false.2 fun x hx => by simp [g1 x hx]
    rw [this]
    rfl
variable [DecidableEq α] [Inhabited α]
/-- A list equals itself, by a loop. -/
theorem eq_l (l : List α) (F : List α → Nat → Option Bool) (h0 : ∀ i, F [] i = some true) (h1 : ∀ y ys i, F (y :: ys) i = Chk (inB (i : Int) l.length) (if !decide (y = nth l (i : Int)) then some false else F ys (i + 1))) : ∀ (ys dn : List α), l = dn ++ ys → F ys dn.length = some true
  | [], dn, _ => h0 _
  | y :: ys, dn, h => by
    have hlen : l.length = dn.length + (ys.length + 1) := by rw [h]; simp
    have hn : nth l (dn.length : Int) = y := by rw [h]; exact nth_mid _ _ _ rfl
    have ih := eq_l l F h0 h1 ys (dn ++ [y]) (by rw [h]; simp)
    rw [List.length_append] at ih
    rw [h1, chkT (inB_iff.2 (by omega)), hn]
    simpa using ih
end
section
variable {α R : Type} [Inhabited α]
/-- Neighbours are struck, in place: it ends, with no more elements than before. -/
theorem compact2_l (C : α → α → Bool) (k n : Nat) (j : List α → Int → Option R) (F : Nat → List α → Int → Int → Option R)
    (h : ∀ m x2 x3 x4, F (m + 1) x2 x3 x4 = if decide (x4 < (((n : Int).toNat - (k : Int).toNat : Nat) : Int)) then
      Chk (inB x4 ((n : Int).toNat - (k : Int).toNat)) (Chk (inB (W (x4 - 1)) ((n : Int).toNat - (k : Int).toNat)) (if !(C (nth (cut x2 (k : Int) (n : Int)) x4) (nth (cut x2 (k : Int) (n : Int)) (W (x4 - 1)))) then
        Chk (inB x4 ((n : Int).toNat - (k : Int).toNat)) (Chk (inB x3 x2.length) (F m (x2.set x3.toNat (nth (cut x2 (k : Int) (n : Int)) x4)) (W (x3 + 1)) (W (x4 + 1))))
      else F m x2 x3 (W (x4 + 1)))) else j x2 x3) (hn : n < 1073741824) (hkn : k ≤ n) :
    ∀ (q m : Nat) (x2 : List α) (v r : Nat), q < m → q + r ≥ n - k → 1 ≤ r → x2.length = n → v < k + r → v ≤ n → ∃ (x2' : List α) (v' : Nat), F m x2 (v : Int) (r : Int) = j x2' (v' : Int) ∧ x2'.length = n ∧ v' ≤ n
  | q, m, x2, v, r, h1, h2, h3, h4, h5, h6 => by
    obtain ⟨m, rfl⟩ : ∃ p, m = p + 1 := ⟨m - 1, by omega⟩
    rw [h]
    simp only [Int.toNat_natCast]
    by_cases hr : r < n - k
    · rw [if_pos (by simp; omega), chkT (inB_iff.2 (by omega)), chkT (inB_iff.2 (by rw [W_in (by omega) (by omega)]; omega))]
      have w1 : W ((r : Int) + 1) = ((r + 1 : Nat) : Int) := by rw [W_in (by omega) (by omega)]; rfl
      have w2 : W ((v : Int) + 1) = ((v + 1 : Nat) : Int) := by rw [W_in (by omega) (by omega)]; rfl
      rw [w1, w2]
      obtain ⟨q, rfl⟩ : ∃ p, q = p + 1 := ⟨q - 1, by omega⟩
      split
      · rw [chkT (inB_iff.2 (by omega)), chkT (inB_iff.2 (by omega))]
        exact compact2_l C k n j F h hn hkn q m _ (v + 1) (r + 1) (by omega) (by omega) (by omega) (by simpa using h4) (by omega) (by omega)
      · exact compact2_l C k n j F h hn hkn q m _ v (r + 1) (by omega) (by omega) (by omega) h4 (by omega) h6
    · rw [if_neg (by simp; omega)]
      exact ⟨x2, v, rfl, h4, h6⟩
end
end Go.Proofs.YtnmojfimananjaaGreatDoor
