/- Go's library loops in general: a search, a list that loses elements, an insertion sort. Conditions: the lists are not long; the loops' equations are given. No program stands here. -/
import Derived.Test.YtnmojfimananjaaGreatDoorTw
namespace Go.Proofs.YtnmojfimananjaaGreatDoor
open Go
theorem joinR {κ R : Type} (K : κ) (f : κ → R) : Join K f = f K := rfl
/-- A join, by what holds of all ways that come to it. -/
theorem join_via {κ R : Type} {K : κ} {f : κ → R} {r : R} (p : κ → Prop) (hK : p K) (hf : ∀ K', p K' → f K' = r) : Join K f = r := hf K hK
theorem chkT {R : Type} {c : Bool} {k : Option R} (h : c = true) : Chk c k = k := by subst h; rfl
section
variable {α R : Type}
/-- A search from the left. -/
theorem find_l (C : α → (Bool → R) → R) (p : α → Bool) (j : R) (o : Int → R) (F : List α → Nat → R) (h0 : ∀ i, F [] i = j) (h1 : ∀ y ys i, F (y :: ys) i = C y (fun b => if b then o (i : Int) else F ys (i + 1))) :
    ∀ (l : List α) (i : Nat), (∀ x ∈ l, ∀ k, C x k = k (p x)) → (∃ pre y post, l = pre ++ y :: post ∧ (∀ x ∈ pre, p x = false) ∧ p y = true ∧ F l i = o ((i + pre.length : Nat) : Int)) ∨ ((∀ x ∈ l, p x = false) ∧ F l i = j)
  | [], i, _ => .inr ⟨fun _ h => (List.not_mem_nil h).elim, h0 i⟩
  | y :: ys, i, hC => by
    rw [h1, hC y List.mem_cons_self]
    cases hy : p y with
    | true => exact .inl ⟨[], y, ys, rfl, fun _ h => (List.not_mem_nil h).elim, hy, by simp⟩
    | false =>
      simp only [Bool.false_eq_true, if_false]
      rcases find_l C p j o F h0 h1 ys (i + 1) (fun x hx => hC x (List.mem_cons_of_mem _ hx)) with ⟨pre, z, post, e, g1, g2, g3⟩ | ⟨g1, g2⟩
      · refine .inl ⟨y :: pre, z, post, by rw [e]; rfl, fun x hx => ?_, g2, by rw [g3]; congr 2; simp; omega⟩
        rcases List.mem_cons.1 hx with rfl | hx
        · exact hy
        · exact g1 x hx
      · refine .inr ⟨fun x hx => ?_, g2⟩
        rcases List.mem_cons.1 hx with rfl | hx
        · exact hy
        · exact g1 x hx
variable [Inhabited α]
theorem nth_mid (a : List α) (y : α) (b : List α) {e : Int} (he : e = (a.length : Int)) : nth (a ++ y :: b) e = y := by
  subst he
  simp [nth]
/-- Elements are struck, in place. -/
theorem strike_l (C : α → (Bool → Option R) → Option R) (p : α → Bool) (j : List α → Int → Option R) (F : Nat → List α → Int → Int → Option R)
    (h : ∀ m x1 x2 x3, F (m + 1) x1 x2 x3 = if decide (x3 < (x1.length : Int)) then Chk (inB x3 x1.length) (C (nth x1 x3) (fun b => if !b then Chk (inB x2 x1.length) (F m (x1.set x2.toNat (nth x1 x3)) (W (x2 + 1)) (W (x3 + 1))) else F m x1 x2 (W (x3 + 1)))) else j x1 x2) :
    ∀ (rest kept mid : List α) (m : Nat), rest.length < m → kept.length + mid.length + rest.length ≤ 1073741824 → (∀ x ∈ rest, ∀ k, C x k = k (p x)) →
      ∃ mid', F m (kept ++ mid ++ rest) (kept.length : Int) ((kept.length + mid.length : Nat) : Int) = j (kept ++ rest.filter (fun x => !p x) ++ mid') ((kept ++ rest.filter (fun x => !p x)).length : Int)
  | [], kept, mid, m, h1, h2, _ => by
    obtain ⟨m, rfl⟩ : ∃ q, m = q + 1 := ⟨m - 1, by omega⟩
    rw [h, if_neg (by simp)]
    exact ⟨mid, by simp⟩
  | y :: r, kept, mid, m, h1, h2, hC => by
    obtain ⟨m, rfl⟩ : ∃ q, m = q + 1 := ⟨m - 1, by omega⟩
    simp only [List.length_cons] at h1 h2
    have hn : nth (kept ++ mid ++ y :: r) ((kept.length + mid.length : Nat) : Int) = y := nth_mid _ _ _ (by simp)
    rw [h, if_pos (by simp; omega), chkT (inB_iff.2 (by simp; omega)), hn, hC y List.mem_cons_self]
    have w1 : W (((kept.length + mid.length : Nat) : Int) + 1) = ((kept.length + mid.length + 1 : Nat) : Int) := by rw [W_in (by omega) (by omega)]; rfl
    have w2 : W ((kept.length : Int) + 1) = ((kept.length + 1 : Nat) : Int) := by rw [W_in (by omega) (by omega)]; rfl
    cases hy : p y with
    | true =>
      simp only [Bool.not_true, Bool.false_eq_true, if_false, w1]
      obtain ⟨mid', e⟩ := strike_l C p j F h r kept (mid ++ [y]) m (by omega) (by simp; omega) (fun x hx => hC x (List.mem_cons_of_mem _ hx))
      refine ⟨mid', ?_⟩
      have e1 : kept ++ mid ++ y :: r = kept ++ (mid ++ [y]) ++ r := by simp
      have e2 : (y :: r).filter (fun x => !p x) = r.filter (fun x => !p x) := by simp [hy]
      rw [e1, e2, ← e]
      congr 2
      simp
      omega
    | false =>
      simp only [Bool.not_false, if_true, w1, w2]
      rw [chkT (inB_iff.2 (by simp; omega))]
      have e2 : (y :: r).filter (fun x => !p x) = y :: r.filter (fun x => !p x) := by simp [hy]
      cases mid with
      | nil =>
        obtain ⟨mid', e⟩ := strike_l C p j F h r (kept ++ [y]) [] m (by omega) (by simp; omega) (fun x hx => hC x (List.mem_cons_of_mem _ hx))
        refine ⟨mid', ?_⟩
        have e1 : (kept ++ [] ++ y :: r).set (kept.length : Int).toNat y = kept ++ [y] ++ [] ++ r := by simp
        rw [e1, e2]
        have e3 : kept ++ y :: r.filter (fun x => !p x) = kept ++ [y] ++ r.filter (fun x => !p x) := by simp
        rw [e3, ← e]
        simp
      | cons z mid0 =>
        obtain ⟨mid', e⟩ := strike_l C p j F h r (kept ++ [y]) (mid0 ++ [y]) m (by omega) (by simp at h2 ⊢; omega) (fun x hx => hC x (List.mem_cons_of_mem _ hx))
        refine ⟨mid', ?_⟩
        have e1 : (kept ++ z :: mid0 ++ y :: r).set (kept.length : Int).toNat y = kept ++ [y] ++ (mid0 ++ [y]) ++ r := by simp
        rw [e1, e2]
        have e3 : kept ++ y :: r.filter (fun x => !p x) = kept ++ [y] ++ r.filter (fun x => !p x) := by simp
        rw [e3, ← e]
        congr 1
        · simp
        · simp
          omega
omit [Inhabited α] in
theorem cut_clr (a b : List α) (z : α) : cutB (a.length : Int) ((a ++ b).length : Int) (a ++ b).length = true ∧ cutB 0 (a.length : Int) (clr (a ++ b) (a.length : Int) ((a ++ b).length : Int) z).length = true ∧ cut (clr (a ++ b) (a.length : Int) ((a ++ b).length : Int) z) 0 (a.length : Int) = a := by
  refine ⟨cutB_iff.2 (by simp; omega), cutB_iff.2 ⟨by omega, by omega, by simp [clr]; omega⟩, ?_⟩
  simp [cut, clr]
/-! ### An insertion sort -/
/-- x goes into the sorted list, which stands from the greatest to the least. -/
def insR (lt : α → α → Bool) (x : α) : List α → List α
  | [] => [x]
  | y :: r => if lt x y then y :: insR lt x r else x :: y :: r
def sortR (lt : α → α → Bool) (l rp : List α) : List α := l.foldl (fun rp x => insR lt x rp) rp
/-- Go's insertion sort. -/
def isort (lt : α → α → Bool) (l : List α) : List α := (sortR lt l []).reverse
omit [Inhabited α] in
theorem insR_len (lt : α → α → Bool) (x : α) : ∀ l : List α, (insR lt x l).length = l.length + 1
  | [] => rfl
  | y :: r => by
    unfold insR
    split
    · simp [insR_len lt x r]
    · rfl
omit [Inhabited α] in
theorem insR_mem (lt : α → α → Bool) (x z : α) : ∀ l : List α, z ∈ insR lt x l ↔ z = x ∨ z ∈ l
  | [] => by simp [insR]
  | y :: r => by
    unfold insR
    split
    · simp only [List.mem_cons, insR_mem lt x z r]
      constructor
      · rintro (h | h | h)
        · exact .inr (.inl h)
        · exact .inl h
        · exact .inr (.inr h)
      · rintro (h | h | h)
        · exact .inr (.inl h)
        · exact .inl h
        · exact .inr (.inr h)
    · simp
theorem ins_l (C : α → α → (Bool → Option R) → Option R) (lt : α → α → Bool) (j : List α → Option R) (F : Nat → List α → Int → Option R)
    (h : ∀ m x i, F (m + 1) x i = if decide (0 < i) then Chk (inB i x.length) (Chk (inB (W (i - 1)) x.length) (C (nth x i) (nth x (W (i - 1))) (fun b => if b then
      Chk (inB (W (i - 1)) x.length) (Chk (inB i x.length) (Chk (inB i x.length) (Chk (inB (W (i - 1)) (x.set i.toNat (nth x (W (i - 1)))).length) (F m ((x.set i.toNat (nth x (W (i - 1)))).set (W (i - 1)).toNat (nth x i)) (W (i - 1)))))) else j x))) else j x) :
    ∀ (rp : List α) (x : α) (post : List α) (m : Nat), rp.length < m → rp.length + post.length < 1073741824 → (∀ y ∈ rp, ∀ k, C x y k = k (lt x y)) →
      F m (rp.reverse ++ x :: post) (rp.length : Int) = j ((insR lt x rp).reverse ++ post)
  | [], x, post, m, h1, h2, _ => by
    obtain ⟨m, rfl⟩ : ∃ q, m = q + 1 := ⟨m - 1, by omega⟩
    rw [h, if_neg (by simp)]
    rfl
  | y :: r, x, post, m, h1, h2, hC => by
    obtain ⟨m, rfl⟩ : ∃ q, m = q + 1 := ⟨m - 1, by omega⟩
    simp only [List.length_cons] at h1 h2
    have e0 : (y :: r).reverse ++ x :: post = r.reverse ++ y :: x :: post := by simp
    have e0' : r.reverse ++ y :: x :: post = (r.reverse ++ [y]) ++ x :: post := by simp
    have wi : W ((((y :: r).length : Nat) : Int) - 1) = (r.length : Int) := by rw [W_in (by simp only [List.length_cons]; omega) (by simp only [List.length_cons]; omega)]; simp
    have n1 : nth (r.reverse ++ y :: x :: post) (((y :: r).length : Nat) : Int) = x := by rw [e0']; exact nth_mid _ _ _ (by simp)
    have n2 : nth (r.reverse ++ y :: x :: post) (r.length : Int) = y := nth_mid _ _ _ (by simp)
    have b1 : inB (((y :: r).length : Nat) : Int) (r.reverse ++ y :: x :: post).length = true := inB_iff.2 ⟨by omega, by simp; omega⟩
    have b2 : inB (r.length : Int) (r.reverse ++ y :: x :: post).length = true := inB_iff.2 (by simp; omega)
    rw [h, e0, if_pos (decide_eq_true (by simp only [List.length_cons]; omega)), wi, chkT b1, chkT b2, n1, n2, hC y List.mem_cons_self]
    unfold insR
    cases hb : lt x y with
    | true =>
      simp only [if_true]
      rw [chkT b2, chkT b1, chkT b1, chkT (by rw [List.length_set]; exact b2)]
      have e1 : ((r.reverse ++ y :: x :: post).set (((y :: r).length : Nat) : Int).toNat y).set (r.length : Int).toNat x = r.reverse ++ x :: (y :: post) := by
        have e2 : (r.reverse ++ y :: x :: post).set (((y :: r).length : Nat) : Int).toNat y = r.reverse ++ y :: y :: post := by
          rw [e0', show (((y :: r).length : Nat) : Int).toNat = (r.reverse ++ [y]).length by simp, List.set_append_right _ _ (Nat.le_refl _)]
          simp
        rw [e2, show (r.length : Int).toNat = r.reverse.length by simp, List.set_append_right _ _ (Nat.le_refl _)]
        simp
      rw [e1, ins_l C lt j F h r x (y :: post) m (by omega) (by simp; omega) (fun z hz => hC z (List.mem_cons_of_mem _ hz))]
      simp
    | false => simp
omit [Inhabited α] in
theorem isort_l (lt : α → α → Bool) (j : List α → Option R) (G : (List α → Option R) → List α → Int → Option R) (F : Nat → List α → Int → Option R) (n : Int)
    (h : ∀ m x i, F (m + 1) x i = if decide (i < n) then G (fun x => F m x (W (i + 1))) x i else j x)
    (hG : ∀ k (rp : List α) (x : α) (post : List α), ((rp ++ x :: post).length : Int) = n → (∀ y, y ∈ rp ∨ y = x ∨ y ∈ post → y ∈ (rp ++ x :: post)) → G k (rp.reverse ++ x :: post) (rp.length : Int) = k ((insR lt x rp).reverse ++ post)) :
    ∀ (rest rp : List α) (m : Nat), rest.length < m → ((rp.length + rest.length : Nat) : Int) = n → rp.length + rest.length < 1073741824 →
      F m (rp.reverse ++ rest) (rp.length : Int) = j (sortR lt rest rp).reverse
  | [], rp, m, h1, h2, _ => by
    obtain ⟨m, rfl⟩ : ∃ q, m = q + 1 := ⟨m - 1, by omega⟩
    rw [h, if_neg (by simp at h2; simp; omega)]
    simp [sortR]
  | x :: r, rp, m, h1, h2, h3 => by
    obtain ⟨m, rfl⟩ : ∃ q, m = q + 1 := ⟨m - 1, by omega⟩
    simp only [List.length_cons] at h1 h2 h3
    rw [h, if_pos (by simp; omega), hG _ rp x r (by simp; omega) (fun y hy => by simpa using hy), show W ((rp.length : Int) + 1) = ((insR lt x rp).length : Int) by rw [W_in (by omega) (by omega), insR_len]; rfl,
      isort_l lt j G F n h hG r (insR lt x rp) m (by omega) (by rw [insR_len]; omega) (by rw [insR_len]; omega)]
    rfl
omit [Inhabited α] in
theorem sortR_mem (lt : α → α → Bool) (z : α) : ∀ l rp : List α, z ∈ sortR lt l rp ↔ z ∈ l ∨ z ∈ rp
  | [], rp => by simp [sortR]
  | x :: l, rp => by
    show z ∈ sortR lt l (insR lt x rp) ↔ _
    rw [sortR_mem lt z l, insR_mem]
    simp only [List.mem_cons]
    constructor
    · rintro (h | h | h)
      · exact .inl (.inr h)
      · exact .inl (.inl h)
      · exact .inr h
    · rintro ((h | h) | h)
      · exact .inr (.inl h)
      · exact .inl h
      · exact .inr (.inr h)
/-- The best of a list: the first one that none is less than. -/
def best1 (lt : α → α → Bool) (o : Option α) (x : α) : Option α := match o with
  | none => some x
  | some y => if lt x y then some x else some y
omit [Inhabited α] in
theorem insR_end (lt : α → α → Bool) (x : α) : ∀ l : List α, (∀ y ∈ l, lt x y = true) → insR lt x l = l ++ [x]
  | [], _ => rfl
  | y :: r, h => by
    unfold insR
    rw [if_pos (h y List.mem_cons_self), insR_end lt x r fun z hz => h z (List.mem_cons_of_mem _ hz)]
    rfl
omit [Inhabited α] in
theorem insR_last (lt : α → α → Bool) (x b : α) (hb : lt x b = false) : ∀ r : List α, ∃ q, insR lt x (r ++ [b]) = q ++ [b]
  | [] => ⟨[x], by simp [insR, hb]⟩
  | y :: r => by
    rw [List.cons_append]
    unfold insR
    split
    · obtain ⟨q, e⟩ := insR_last lt x b hb r
      exact ⟨y :: q, by rw [e]; rfl⟩
    · exact ⟨x :: y :: r, rfl⟩
omit [Inhabited α] in
/-- The first element of the sorted list is the best one. -/
theorem sortR_best (lt : α → α → Bool) (h1 : ∀ x y, lt x y = true → lt y x = false) (h2 : ∀ x y b, lt x b = true → lt y b = false → lt x y = true) : ∀ (l r : List α) (b : α), (∀ y ∈ r ++ [b], lt y b = false) →
    ∃ q b', sortR lt l (r ++ [b]) = q ++ [b'] ∧ l.foldl (best1 lt) (some b) = some b'
  | [], r, b, _ => ⟨r, b, rfl, rfl⟩
  | x :: l, r, b, hb => by
    show ∃ q b', sortR lt l (insR lt x (r ++ [b])) = q ++ [b'] ∧ l.foldl (best1 lt) (best1 lt (some b) x) = some b'
    cases hx : lt x b with
    | true =>
      rw [insR_end lt x (r ++ [b]) fun y hy => h2 x y b hx (hb y hy), show best1 lt (some b) x = some x by simp [best1, hx]]
      refine sortR_best lt h1 h2 l (r ++ [b]) x fun y hy => ?_
      rcases List.mem_append.1 hy with hy | hy
      · exact h1 x y (h2 x y b hx (hb y hy))
      · rw [List.mem_singleton] at hy
        subst hy
        cases hxx : lt y y
        · rfl
        · exact (h1 y y hxx).symm.trans hxx ▸ rfl
    | false =>
      obtain ⟨q, e⟩ := insR_last lt x b hx r
      rw [e, show best1 lt (some b) x = some b by simp [best1, hx]]
      refine sortR_best lt h1 h2 l q b fun y hy => ?_
      rw [← e, insR_mem] at hy
      rcases hy with rfl | hy
      · exact hx
      · exact hb y hy
theorem isort_best (lt : α → α → Bool) (h0 : ∀ x, lt x x = false) (h1 : ∀ x y, lt x y = true → lt y x = false) (h2 : ∀ x y b, lt x b = true → lt y b = false → lt x y = true) (l : List α) (hl : l ≠ []) :
    ∃ b, l.foldl (best1 lt) none = some b ∧ nth (isort lt l) 0 = b ∧ isort lt l ≠ [] := by
  cases l with
  | nil => exact (hl rfl).elim
  | cons x l =>
    obtain ⟨q, b, e1, e2⟩ := sortR_best lt h1 h2 l [] x (fun y hy => by simp at hy; subst hy; exact h0 y)
    refine ⟨b, e2, ?_, ?_⟩
    · show nth (sortR lt l [x]).reverse 0 = b
      rw [show [x] = [] ++ [x] from rfl, e1]
      simp [nth]
    · show (sortR lt l [x]).reverse ≠ []
      rw [show [x] = [] ++ [x] from rfl, e1]
      simp
omit [Inhabited α] in
theorem foldl_filter1 {β : Type} (p : α → Bool) (f : β → α → β) : ∀ (l : List α) (b : β), l.foldl (fun o y => if p y then o else f o y) b = (l.filter fun x => !p x).foldl f b
  | [], _ => rfl
  | y :: l, b => by
    cases h : p y with
    | true => simp [h, foldl_filter1 p f l]
    | false => simp [h, foldl_filter1 p f l]
end
end Go.Proofs.YtnmojfimananjaaGreatDoor
