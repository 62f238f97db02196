/- Go's library loops in general: a search, a list that loses elements, an insertion sort. Conditions: the lists are not long; the loops' equations are given. No program stands here. -/
import Derived.Test.YtpfommakhgkmeaaGreatDoorTw
namespace Go.Proofs.YtpfommakhgkmeaaGreatDoor
open Go
theorem joinR {κ R : Type} (K : κ) (f : κ → R) : Join K f = f K := rfl
theorem chkT {R : Type} {c : Bool} {k : Option R} (h : c = true) : Chk c k = k := by subst h; rfl
section
variable {α R : Type}
variable [Inhabited α]
theorem nth_mid (a : List α) (y : α) (b : List α) {e : Int} (he : e = (a.length : Int)) : nth (a ++ y :: b) e = y := by
  subst he
  simp [nth]
def insR (lt : α → α → Bool) (x : α) : List α → List α
  | [] => [x]
  | y :: r => if lt x y then y :: insR lt x r else x :: y :: r
def sortR (lt : α → α → Bool) (l rp : List α) : List α := l.foldl (fun rp x => insR lt x rp) rp
def isort (lt : α → α → Bool) (l : List α) : List α := (sortR lt l []).reverse
omit [Inhabited α] in
theorem insR_len (lt : α → α → Bool) (x : α) : ∀ l : List α, (insR lt x l).length = l.length + 1
  | [] => rfl
  | y :: r => by
    unfold insR
    split
    · simp [insR_len lt x r]
    · rfl
omit [Inhabited α] in
theorem insR_mem (lt : α → α → Bool) (x z : α) : ∀ l : List α, z ∈ insR lt x l ↔ z = x ∨ z ∈ l
  | [] => by simp [insR]
  | y :: r => by
    unfold insR
    split
    · simp only [List.mem_cons, insR_mem lt x z r]
      constructor
      · rintro (h | h | h)
        · exact .inr (.inl h)
        · exact .inl h
        · exact .inr (.inr h)
      · rintro (h | h | h)
        · exact .inr (.inl h)
        · exact .inl h
        · exact .inr (.inr h)
    · simp
theorem ins_l (C : α → α → (Bool → Option R) → Option R) (lt : α → α → Bool) (j : List α → Option R) (F : Nat → List α → Int → Option R)
    (h : ∀ m x i, F (m + 1) x i = if decide (0 < i) then Chk (inB i x.length) (Chk (inB (W (i - 1)) x.length) (C (nth x i) (nth x (W (i - 1))) (fun b => if b then
      Chk (inB (W (i - 1)) x.length) (Chk (inB i x.length) (Chk (inB i x.length) (Chk (inB (W (i - 1)) (x.set i.toNat (nth x (W (i - 1)))).length) (F m ((x.set i.toNat (nth x (W (i - 1)))).set (W (i - 1)).toNat (nth x i)) (W (i - 1)))))) else j x))) else j x) :
    ∀ (rp : List α) (x : α) (post : List α) (m : Nat), rp.length < m → rp.length + post.length < 1073741824 → (∀ y ∈ rp, ∀ k, C x y k = k (lt x y)) →
      F m (rp.reverse ++ x :: post) (rp.length : Int) = j ((insR lt x rp).reverse ++ post)
  | [], x, post, m, h1, h2, _ => by
    obtain ⟨m, rfl⟩ : ∃ q, m = q + 1 := ⟨m - 1, by omega⟩
    rw [h, if_neg (by simp)]
    rfl
  | y :: r, x, post, m, h1, h2, hC => by
    obtain ⟨m, rfl⟩ : ∃ q, m = q + 1 := ⟨m - 1, by omega⟩
    simp only [List.length_cons] at h1 h2
    have e0 : (y :: r).reverse ++ x :: post = r.reverse ++ y :: x :: post := by simp
    have e0' : r.reverse ++ y :: x :: post = (r.reverse ++ [y]) ++ x :: post := by simp
    have wi : W ((((y :: r).length : Nat) : Int) - 1) = (r.length : Int) := by rw [W_in (by simp only [List.length_cons]; omega) (by simp only [List.length_cons]; omega)]; simp
    have n1 : nth (r.reverse ++ y :: x :: post) (((y :: r).length : Nat) : Int) = x := by rw [e0']; exact nth_mid _ _ _ (by simp)
    have n2 : nth (r.reverse ++ y :: x :: post) (r.length : Int) = y := nth_mid _ _ _ (by simp)
    have b1 : inB (((y :: r).length : Nat) : Int) (r.reverse ++ y :: x :: post).length = true := inB_iff.2 ⟨by omega, by simp; omega⟩
    have b2 : inB (r.length : Int) (r.reverse ++ y :: x :: post).length = true := inB_iff.2 (by simp; omega)
    rw [h, e0, if_pos (decide_eq_true (by simp only [List.length_cons]; omega)), wi, chkT b1, chkT b2, n1, n2, hC y List.mem_cons_self]
    unfold insR
    cases hb : lt x y with
    | true =>
      simp only [if_true]
      rw [chkT b2, chkT b1, chkT b1, chkT (by rw [List.length_set]; exact b2)]
      have e1 : ((r.reverse ++ y :: x :: post).set (((y :: r).length : Nat) : Int).toNat y).set (r.length : Int).toNat x = r.reverse ++ x :: (y :: post) := by
        have e2 : (r.reverse ++ y :: x :: post).set (((y :: r).length : Nat) : Int).toNat y = r.reverse ++ y :: y :: post := by
          rw [e0', show (((y :: r).length : Nat) : Int).toNat = (r.reverse ++ [y]).length by simp, List.set_append_right _ _ (Nat.le_refl _)]
          simp
        rw [e2, show (r.length : Int).toNat = r.reverse.length by simp, List.set_append_right _ _ (Nat.le_refl _)]
        simp
      rw [e1, ins_l C lt j F h r x (y :: post) m (by omega) (by simp; omega) (fun z hz => hC z (List.mem_cons_of_mem _ hz))]
      simp
    | false => simp
omit [Inhabited α] in
theorem isort_l (lt : α → α → Bool) (j : List α → Option R) (G : (List α → Option R) → List α → Int → Option R) (F : Nat → List α → Int → Option R) (n : Int)
    (h : ∀ m x i, F (m + 1) x i = if decide (i < n) then G (fun x => F m x (W (i + 1))) x i else j x)
    (hG : ∀ k (rp : List α) (x : α) (post : List α), ((rp ++ x :: post).length : Int) = n → (∀ y, y ∈ rp ∨ y = x ∨ y ∈ post → y ∈ (rp ++ x :: post)) → G k (rp.reverse ++ x :: post) (rp.length : Int) = k ((insR lt x rp).reverse ++ post)) :
    ∀ (rest rp : List α) (m : Nat), rest.length < m → ((rp.length + rest.length : Nat) : Int) = n → rp.length + rest.length < 1073741824 →
      F m (rp.reverse ++ rest) (rp.length : Int) = j (sortR lt rest rp).reverse
  | [], rp, m, h1, h2, _ => by
    obtain ⟨m, rfl⟩ : ∃ q, m = q + 1 := ⟨m - 1, by omega⟩
    rw [h, if_neg (by simp at h2; simp; omega)]
    simp [sortR]
  | x :: r, rp, m, h1, h2, h3 => by
    obtain ⟨m, rfl⟩ : ∃ q, m = q + 1 := ⟨m - 1, by omega⟩
    simp only [List.length_cons] at h1 h2 h3
    rw [h, if_pos (by simp; omega), hG _ rp x r (by simp; omega) (fun y hy => by simpa using hy), show W ((rp.length : Int) + 1) = ((insR lt x rp).length : Int) by rw [W_in (by omega) (by omega), insR_len]; rfl,
      isort_l lt j G F n h hG r (insR lt x rp) m (by omega) (by rw [insR_len]; omega) (by rw [insR_len]; omega)]
    rfl
omit [Inhabited α] in
theorem sortR_mem (lt : α → α → Bool) (z : α) : ∀ l rp : List α, z ∈ sortR lt l rp ↔ z ∈ l ∨ z ∈ rp
  | [], rp => by simp [sortR]
  | x :: l, rp => by
    show z ∈ sortR lt l (insR lt x rp) ↔ _
    rw [sortR_mem lt z l, insR_mem]
    simp only [List.mem_cons]
    constructor
    · rintro (h | h | h)
      · exact .inl (.inr h)
      · exact .inl (.inl h)
      · exact .inr h
    · rintro ((h | h) | h)
      · exact .inr (.inl h)
      · exact .inl h
      · exact .inr (.inr h)
omit [Inhabited α] in
end
end Go.Proofs.YtpfommakhgkmeaaGreatDoor
