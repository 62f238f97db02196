/- Tables and ranks: what the stream gives is right. Conditions: the twins of package points and of the stream. -/
import Derived.Test.YtfdcgchgkojfiaaGreatDoorTw
namespace Go.Proofs.YtfdcgchgkojfiaaGreatDoor
open Go

theorem Ft {R : Type} {c : Bool} {k : Option R} (h : c = true) : Chk c k = k:=by simp [Chk,h]
theorem He {κ R : Type} (K : κ) (f : κ → R) : Fh K f = f K:=rfl
theorem Xm {x n : Int} (hn : 0 < n) : -n < Int.tmod x n ∧ Int.tmod x n < n:=by
 have h1:=Int.tmod_lt_of_pos x hn
 have h2:=Int.tmod_lt_of_pos (-x) hn
 rw [Int.neg_tmod] at h2
 omega
theorem Yy (x n : Int) (hn : n ≤ 4611686018427387904) : ∃ v,Lq x n = some v ∧ 0 ≤ v ∧ (v < n ∨ (n < 1 ∧ v = 0)):=by
 unfold Lq
 by_cases h : n < 1
 ·exact ⟨0,by simp [h],Int.le_refl _,.inr ⟨h,rfl⟩⟩
 ·have h1:=Xm (x:=x) (n:=n) (by omega)
  have h0 : ¬ n = 0:=by omega
  simp only [decide_eq_true_eq,h,if_false,Fh]
  rw [Ft (by simp [h0])]
  by_cases h2 : Int.tmod x n < 0
  ·rw [if_pos h2,Mw (by omega) (by omega)]
   exact ⟨_,rfl,by omega,.inl (by omega)⟩
  ·rw [if_neg h2]
   exact ⟨_,rfl,by omega,.inl (by omega)⟩
theorem Wm (L : List Int) (a n : Int) (ha : 0 ≤ a) (ha' : a ≤ 4611686018427387904) (hL : (L.length : Int) ≤ 9223372036854775807) (hn : n ≤ 4611686018427387904) :
  ∃ v,Nb L a n = some (v,a + 1) ∧ 0 ≤ v ∧ (v < n ∨ (n < 1 ∧ v = 0)):=by
 have w1 : W (a + 1) = a + 1:=Mw (by omega) (by omega)
 have w2 : W (a + 1 - 1) = a:=by rw [show a + 1 - 1 = a by omega]; exact Mw (by omega) (by omega)
 unfold Nb
 rw [w1,w2]
 by_cases h : (L.length : Int) = 0
 ·obtain ⟨v,h1,h2,h3⟩:=Yy (W ((a + 1) * 7919)) n hn
  exact ⟨v,by simp [h,h1],h2,h3⟩
 ·have h0 : 0 < (L.length : Int):=by omega
  have hm:=Xm (x:=a) h0
  have hm0 : 0 ≤ Int.tmod a (L.length : Int):=Int.tmod_nonneg _ ha
  have hc : inB (Int.tmod a (L.length : Int)) L.length = true:=Jh.2 ⟨hm0,hm.2⟩
  obtain ⟨v1,e1,_,_⟩:=Yy (nth L (Int.tmod a (L.length : Int))) 1073741824 (by omega)
  simp only [decide_eq_true_eq,h,if_false]
  rw [Ft (by simp),Ft (by simp),Ft hc,e1]
  simp only [Option.bind_some]
  obtain ⟨v2,e2,g1,g2⟩:=Yy (W (v1 + W (W (Int.tdiv a (L.length : Int)) * W (7919 + Int.tmod a (L.length : Int))))) n hn
  exact ⟨v2,by rw [e2]; rfl,g1,g2⟩
theorem FC (L : List Int) (a : Int) (l : List Int) (ha : 0 ≤ a) (ha' : a ≤ 4611686018427387904) (hL : (L.length : Int) ≤ 9223372036854775807) (hl : 0 < l.length) (hl' : l.length ≤ 1000) :
  ∃ v,Ki L a l = some (v,a + 1) ∧ v ∈ l:=by
 obtain ⟨v,h1,h2,h3⟩:=Wm L a (l.length : Int) ha ha' hL (by omega)
 have h4 : v < (l.length : Int):=by omega
 have hc : inB v l.length = true:=Jh.2 ⟨h2,h4⟩
 unfold Ki
 rw [h1]
 simp only [Option.bind_some]
 rw [Ft hc]
 exact ⟨nth l v,rfl,List.mem_of_getElem? (Db hc).1⟩
theorem FD (L : List Int) (a n : Int) (ha : 0 ≤ a) (ha' : a ≤ 4611686018427387904) (hL : (L.length : Int) ≤ 9223372036854775807) (hn : n ≤ 4611686018427387904) : ∃ b,Mi L a n = some (b,a + 1):=by
 obtain ⟨v,h1,_,_⟩:=Wm L a n ha ha' hL hn
 unfold Mi
 rw [h1]
 exact ⟨_,rfl⟩
end Go.Proofs.YtfdcgchgkojfiaaGreatDoor
namespace Go.Proofs.YtfdcgchgkojfiaaGreatDoor
open Go
theorem CR (j : Int → Option Cu) : ∀ (m x y : Nat),x < m → Ii j m (x : Int) (y : Int) = j ((Nat.gcd x y : Nat) : Int)
 | 0,_,_,h=>by omega
 | m + 1,x,y,h=>by
  rw [Ii,Nat.gcd_rec]
  by_cases h0 : x = 0
  ·subst h0
   rw [if_neg (by simp),Nat.mod_zero,Nat.gcd_zero_right]
  ·have hlt:=Nat.mod_lt y (Nat.pos_of_ne_zero h0)
   rw [if_pos (by simp; omega),Ft (by simp [h0]),← Int.ofNat_tmod]
   exact CR j m (y % x) x (by omega)
theorem IH {a g : Nat} (h : a ≤ 4000000000000000000) : W (Int.tdiv (a : Int) (g : Int)) = ((a / g : Nat) : Int):=by
 rw [← Int.ofNat_tdiv]
 have:=Nat.div_le_self a g
 generalize a / g = q at this ⊢
 exact Mw (by omega) (by omega)
theorem frac_is (a b : Nat) (hb : 0 < b) (ha : a ≤ 4000000000000000000) (hb' : b ≤ 4000000000000000000) : Kp (a : Int) (b : Int) = some ⟨((a / Nat.gcd a b : Nat) : Int),((b / Nat.gcd a b : Nat) : Int)⟩:=by
 unfold Kp
 simp only [He]
 rw [CR _ _ a b (by simp)]
 have hg : 0 < Nat.gcd a b:=Nat.gcd_pos_of_pos_right _ hb
 have h0 : ¬ ((Nat.gcd a b : Nat) : Int) = 0:=by omega
 rw [Ft (by rw [decide_eq_false h0]; rfl),Ft (by rw [decide_eq_false h0]; rfl),IH ha,IH hb']
def fr (v : Nat) : Cu:=⟨((v / Nat.gcd v 60 : Nat) : Int),((60 / Nat.gcd v 60 : Nat) : Int)⟩
theorem gcd60 (v : Nat) : 0 < Nat.gcd v 60:=Nat.gcd_pos_of_pos_right _ (by decide)
theorem CS {a b v : Nat} (hb : 0 < b) (h : a * 60 = v * b) : a / Nat.gcd a b = v / Nat.gcd v 60 ∧ b / Nat.gcd a b = 60 / Nat.gcd v 60:=by
 have hg:=Nat.gcd_pos_of_pos_right a hb
 have hk:=gcd60 v
 have c1 : (a / Nat.gcd a b).Coprime (b / Nat.gcd a b):=Nat.coprime_div_gcd_div_gcd hg
 have c2 : (v / Nat.gcd v 60).Coprime (60 / Nat.gcd v 60):=Nat.coprime_div_gcd_div_gcd hk
 have e1:=Nat.div_mul_cancel (Nat.gcd_dvd_left a b)
 have e2:=Nat.div_mul_cancel (Nat.gcd_dvd_right a b)
 have e3:=Nat.div_mul_cancel (Nat.gcd_dvd_left v 60)
 have e4:=Nat.div_mul_cancel (Nat.gcd_dvd_right v 60)
 generalize a / Nat.gcd a b = a' at *
 generalize b / Nat.gcd a b = b' at *
 generalize v / Nat.gcd v 60 = v' at *
 generalize hd : 60 / Nat.gcd v 60 = d' at *
 generalize Nat.gcd a b = g at *
 generalize Nat.gcd v 60 = k at *
 have hx : a' * d' = v' * b':=by
  have h1 : a' * g * (d' * k) = v' * k * (b' * g):=by rw [e1,e4,e3,e2]; exact h
  have h2 : a' * d' * (g * k) = v' * b' * (g * k):=by
   calc a' * d' * (g * k) = a' * g * (d' * k):=by ac_rfl
    _ = v' * k * (b' * g):=h1
    _ = v' * b' * (g * k):=by ac_rfl
  exact Nat.eq_of_mul_eq_mul_right (Nat.mul_pos hg hk) h2
 have hb' : 0 < b':=by
  rcases Nat.eq_zero_or_pos b' with h0 | h0
  ·rw [h0] at e2; omega
  ·exact h0
 have p1 : b' ∣ d':=c1.symm.dvd_of_dvd_mul_left (by rw [hx]; exact Nat.dvd_mul_left _ _)
 have p2 : d' ∣ b':=c2.symm.dvd_of_dvd_mul_left (by rw [← hx]; exact Nat.dvd_mul_left _ _)
 have e : b' = d':=Nat.dvd_antisymm p1 p2
 subst e
 exact ⟨Nat.eq_of_mul_eq_mul_right hb' hx,rfl⟩
theorem FE {a b v : Nat} (hb : 0 < b) (h : a * 60 = v * b) (ha : a ≤ 4000000000000000000) (hb' : b ≤ 4000000000000000000) : Kp (a : Int) (b : Int) = some (fr v):=by
 rw [frac_is a b hb ha hb']
 obtain ⟨h1,h2⟩:=CS hb h
 rw [h1,h2]; rfl
theorem Yz (v : Nat) : ∃ n d : Nat,fr v = ⟨(n : Int),(d : Int)⟩ ∧ 0 < d ∧ d ≤ 60 ∧ n ≤ v ∧ n * 60 = v * d:=by
 refine ⟨v / Nat.gcd v 60,60 / Nat.gcd v 60,rfl,?_,Nat.div_le_self _ _,Nat.div_le_self _ _,?_⟩
 ·exact Nat.div_pos (Nat.le_of_dvd (by decide) (Nat.gcd_dvd_right _ _)) (gcd60 v)
 ·have e3:=Nat.div_mul_cancel (Nat.gcd_dvd_left v 60)
  have e4:=Nat.div_mul_cancel (Nat.gcd_dvd_right v 60)
  generalize v / Nat.gcd v 60 = v' at *
  generalize 60 / Nat.gcd v 60 = d' at *
  generalize Nat.gcd v 60 = k at *
  calc v' * 60 = v' * (d' * k):=by rw [e4]
   _ = v' * k * d':=by ac_rfl
   _ = v * d':=by rw [e3]
theorem GR {n d m e u v : Nat} (h1 : n * 60 = u * d) (h2 : m * 60 = v * e) : (n * e + m * d) * 60 = (u + v) * (d * e):=by
 calc (n * e + m * d) * 60 = n * 60 * e + m * 60 * d:=by rw [Nat.add_mul]; congr 1 <;> ac_rfl
  _ = u * d * e + v * e * d:=by rw [h1,h2]
  _ = (u + v) * (d * e):=by rw [Nat.add_mul]; congr 1 <;> ac_rfl
theorem Wn {a b : Nat} (ha : a ≤ 1000000000) (hb : b ≤ 60) : a * b ≤ 60000000000:=Nat.mul_le_mul ha hb
theorem II {a b : Nat} (ha : a ≤ 1000000000) (hb : b ≤ 60) : W ((a : Int) * (b : Int)) = ((a * b : Nat) : Int):=by
 have:=Wn ha hb
 rw [← Int.natCast_mul]
 exact Mw (by omega) (by omega)
theorem add_fr {u v : Nat} (hu : u ≤ 1000000000) (hv : v ≤ 1000000000) : Qy (fr u) (fr v) = some (fr (u + v)):=by
 obtain ⟨n,d,e1,d1,d2,n1,p1⟩:=Yz u
 obtain ⟨m,e,e2,d3,d4,m1,p2⟩:=Yz v
 unfold Qy
 rw [e1,e2]
 simp only
 have b1:=Wn (a:=n) (b:=e) (by omega) d4
 have b2:=Wn (a:=m) (b:=d) (by omega) d2
 have b3:=Wn (a:=d) (b:=e) (by omega) d4
 rw [II (by omega) d4,II (by omega) d2,II (by omega) d4,← Int.natCast_add,Mw (by omega) (by omega),FE (Nat.mul_pos d1 d3) (GR p1 p2) (by omega) (by omega)]
 rfl
theorem FF : Gd = fr 0:=by decide +kernel
end Go.Proofs.YtfdcgchgkojfiaaGreatDoor
namespace Go.Proofs.YtfdcgchgkojfiaaGreatDoor
open Go
theorem Wo {κ R : Type} (K : κ) (f : κ → R) : Fh K f = f K:=rfl
theorem BV {R : Type} {c : Bool} {k : Option R} (h : c = true) : Chk c k = k:=by subst h; rfl
section
variable {α R : Type}
variable [Inhabited α]
theorem Pq (a : List α) (y : α) (b : List α) {e : Int} (he : e = (a.length : Int)) : nth (a ++ y :: b) e = y:=by
 subst he
 simp [nth]
def Of (lt : α → α → Bool) (x : α) : List α → List α
 | []=>[x]
 | y :: r=>if lt x y then y :: Of lt x r else x :: y :: r
def Qb (lt : α → α → Bool) (l rp : List α) : List α:=l.foldl (fun rp x=>Of lt x rp) rp
def Lx (lt : α → α → Bool) (l : List α) : List α:=(Qb lt l []).reverse
omit [Inhabited α] in
theorem Ug (lt : α → α → Bool) (x : α) : ∀ l : List α,(Of lt x l).length = l.length + 1
 | []=>rfl
 | y :: r=>by
  unfold Of
  split
  ·simp [Ug lt x r]
  ·rfl
omit [Inhabited α] in
theorem Sd (lt : α → α → Bool) (x z : α) : ∀ l : List α,z ∈ Of lt x l ↔ z = x ∨ z ∈ l
 | []=>by simp [Of]
 | y :: r=>by
  unfold Of
  split
  ·simp only [List.mem_cons,Sd lt x z r]
   constructor
   ·rintro (h | h | h)
    ·exact .inr (.inl h)
    ·exact .inl h
    ·exact .inr (.inr h)
   ·rintro (h | h | h)
    ·exact .inr (.inl h)
    ·exact .inl h
    ·exact .inr (.inr h)
  ·simp
theorem FG (C : α → α → (Bool → Option R) → Option R) (lt : α → α → Bool) (j : List α → Option R) (F : Nat → List α → Int → Option R)
  (h : ∀ m x i,F (m + 1) x i = if decide (0 < i) then Chk (inB i x.length) (Chk (inB (W (i - 1)) x.length) (C (nth x i) (nth x (W (i - 1))) (fun b=>if b then
   Chk (inB (W (i - 1)) x.length) (Chk (inB i x.length) (Chk (inB i x.length) (Chk (inB (W (i - 1)) (x.set i.toNat (nth x (W (i - 1)))).length) (F m ((x.set i.toNat (nth x (W (i - 1)))).set (W (i - 1)).toNat (nth x i)) (W (i - 1)))))) else j x))) else j x) :
  ∀ (rp : List α) (x : α) (post : List α) (m : Nat),rp.length < m → rp.length + post.length < 1073741824 → (∀ y ∈ rp,∀ k,C x y k = k (lt x y)) →
   F m (rp.reverse ++ x :: post) (rp.length : Int) = j ((Of lt x rp).reverse ++ post)
 | [],x,post,m,h1,h2,_=>by
  obtain ⟨m,rfl⟩ : ∃ q,m = q + 1:=⟨m - 1,by omega⟩
  rw [h,if_neg (by simp)]
  rfl
 | y :: r,x,post,m,h1,h2,hC=>by
  obtain ⟨m,rfl⟩ : ∃ q,m = q + 1:=⟨m - 1,by omega⟩
  simp only [List.length_cons] at h1 h2
  have e0 : (y :: r).reverse ++ x :: post = r.reverse ++ y :: x :: post:=by simp
  have e0' : r.reverse ++ y :: x :: post = (r.reverse ++ [y]) ++ x :: post:=by simp
  have wi : W ((((y :: r).length : Nat) : Int) - 1) = (r.length : Int):=by rw [Mw (by simp only [List.length_cons]; omega) (by simp only [List.length_cons]; omega)]; simp
  have n1 : nth (r.reverse ++ y :: x :: post) (((y :: r).length : Nat) : Int) = x:=by rw [e0']; exact Pq _ _ _ (by simp)
  have n2 : nth (r.reverse ++ y :: x :: post) (r.length : Int) = y:=Pq _ _ _ (by simp)
  have b1 : inB (((y :: r).length : Nat) : Int) (r.reverse ++ y :: x :: post).length = true:=Jh.2 ⟨by omega,by simp; omega⟩
  have b2 : inB (r.length : Int) (r.reverse ++ y :: x :: post).length = true:=Jh.2 (by simp; omega)
  rw [h,e0,if_pos (decide_eq_true (by simp only [List.length_cons]; omega)),wi,BV b1,BV b2,n1,n2,hC y List.mem_cons_self]
  unfold Of
  cases hb : lt x y with
  | true =>
   simp only [if_true]
   rw [BV b2,BV b1,BV b1,BV (by rw [List.length_set]; exact b2)]
   have e1 : ((r.reverse ++ y :: x :: post).set (((y :: r).length : Nat) : Int).toNat y).set (r.length : Int).toNat x = r.reverse ++ x :: (y :: post):=by
    have e2 : (r.reverse ++ y :: x :: post).set (((y :: r).length : Nat) : Int).toNat y = r.reverse ++ y :: y :: post:=by
     rw [e0',show (((y :: r).length : Nat) : Int).toNat = (r.reverse ++ [y]).length by simp,List.set_append_right _ _ (Nat.le_refl _)]
     simp
    rw [e2,show (r.length : Int).toNat = r.reverse.length by simp,List.set_append_right _ _ (Nat.le_refl _)]
    simp
   rw [e1,FG C lt j F h r x (y :: post) m (by omega) (by simp; omega) (fun z hz=>hC z (List.mem_cons_of_mem _ hz))]
   simp
  | false=>simp
omit [Inhabited α] in
theorem Ym (lt : α → α → Bool) (j : List α → Option R) (G : (List α → Option R) → List α → Int → Option R) (F : Nat → List α → Int → Option R) (n : Int)
  (h : ∀ m x i,F (m + 1) x i = if decide (i < n) then G (fun x=>F m x (W (i + 1))) x i else j x)
  (hG : ∀ k (rp : List α) (x : α) (post : List α),((rp ++ x :: post).length : Int) = n → (∀ y,y ∈ rp ∨ y = x ∨ y ∈ post → y ∈ (rp ++ x :: post)) → G k (rp.reverse ++ x :: post) (rp.length : Int) = k ((Of lt x rp).reverse ++ post)) :
  ∀ (rest rp : List α) (m : Nat),rest.length < m → ((rp.length + rest.length : Nat) : Int) = n → rp.length + rest.length < 1073741824 →
   F m (rp.reverse ++ rest) (rp.length : Int) = j (Qb lt rest rp).reverse
 | [],rp,m,h1,h2,_=>by
  obtain ⟨m,rfl⟩ : ∃ q,m = q + 1:=⟨m - 1,by omega⟩
  rw [h,if_neg (by simp at h2; simp; omega)]
  simp [Qb]
 | x :: r,rp,m,h1,h2,h3=>by
  obtain ⟨m,rfl⟩ : ∃ q,m = q + 1:=⟨m - 1,by omega⟩
  simp only [List.length_cons] at h1 h2 h3
  rw [h,if_pos (by simp; omega),hG _ rp x r (by simp; omega) (fun y hy=>by simpa using hy),show W ((rp.length : Int) + 1) = ((Of lt x rp).length : Int) by rw [Mw (by omega) (by omega),Ug]; rfl,
   Ym lt j G F n h hG r (Of lt x rp) m (by omega) (by rw [Ug]; omega) (by rw [Ug]; omega)]
  rfl
omit [Inhabited α] in
theorem AJ (lt : α → α → Bool) (z : α) : ∀ l rp : List α,z ∈ Qb lt l rp ↔ z ∈ l ∨ z ∈ rp
 | [],rp=>by simp [Qb]
 | x :: l,rp=>by
  show z ∈ Qb lt l (Of lt x rp) ↔ _
  rw [AJ lt z l,Sd]
  simp only [List.mem_cons]
  constructor
  ·rintro (h | h | h)
   ·exact .inl (.inr h)
   ·exact .inl (.inl h)
   ·exact .inr h
  ·rintro ((h | h) | h)
   ·exact .inr (.inl h)
   ·exact .inl h
   ·exact .inr (.inr h)
omit [Inhabited α] in
end
end Go.Proofs.YtfdcgchgkojfiaaGreatDoor
namespace Go.Proofs.YtfdcgchgkojfiaaGreatDoor
open Go
section
variable {α β R : Type}
variable [DecidableEq α] [Inhabited α]
theorem eq_l (l : List α) (F : List α → Nat → Option Bool) (h0 : ∀ i,F [] i = some true) (h1 : ∀ y ys i,F (y :: ys) i = Chk (inB (i : Int) l.length) (if !decide (y = nth l (i : Int)) then some false else F ys (i + 1))) : ∀ (ys dn : List α),l = dn ++ ys → F ys dn.length = some true
 | [],dn,_=>h0 _
 | y :: ys,dn,h=>by
  have hlen : l.length = dn.length + (ys.length + 1):=by rw [h]; simp
  have hn : nth l (dn.length : Int) = y:=by rw [h]; exact Pq _ _ _ rfl
  have ih:=eq_l l F h0 h1 ys (dn ++ [y]) (by rw [h]; simp)
  rw [List.length_append] at ih
  rw [h1,BV (Jh.2 (by omega)),hn]
  simpa using ih
end
section
variable {α R : Type} [Inhabited α]
end
end Go.Proofs.YtfdcgchgkojfiaaGreatDoor
namespace Go.Proofs.YtfdcgchgkojfiaaGreatDoor
open Go
def One (g : List An) : Prop:=g ≠ [] ∧ ∀ x ∈ g,∀ y ∈ g,x.Race = y.Race
theorem CT (pl pre g post : List An) (hp : pl = pre ++ (g ++ post)) (hg : One g) (hn : ∀ x ∈ g,∀ y,post.head? = some y → x.Race ≠ y.Race) (hl : pl.length ≤ 1000) (j : Int → Option (List (List An))) :
  ∀ (d m k : Nat),g.length = k + d → 1 ≤ k → d < m → Jg pl (pre.length : Int) j m ((pre.length + k : Nat) : Int) = j ((pre.length + g.length : Nat) : Int)
 | d,0,_,_,_,h=>by omega
 | d,m + 1,k,h1,h2,h3=>by
  have hlen : pl.length = pre.length + (g.length + post.length):=by rw [hp]; simp
  rw [Jg]
  simp only [He]
  have hn0 : ∃ g0 gs,g = g0 :: gs:=by
   cases g with
   | nil=>exact (hg.1 rfl).elim
   | cons a b=>exact ⟨a,b,rfl⟩
  obtain ⟨g0,gs,e0⟩:=hn0
  have h0 : nth pl (pre.length : Int) = g0:=by rw [hp,e0]; exact Pq pre g0 (gs ++ post) rfl
  have hb0 : inB (pre.length : Int) pl.length = true:=Jh.2 (by rw [hlen,e0]; simp; omega)
  cases d with
  | zero =>
   have hk : k = g.length:=by omega
   subst hk
   cases post with
   | nil =>
    simp only [List.length_nil,Nat.add_zero] at hlen
    rw [if_neg (by rw [hlen]; simp)]
    simp only [hlen,Int.lt_irrefl,decide_false,Bool.false_and,Bool.false_eq_true,if_false]
   | cons y post =>
    have hy : nth pl ((pre.length + g.length : Nat) : Int) = y:=by
     have : pl = (pre ++ g) ++ y :: post:=by rw [hp]; simp
     rw [this]; exact Pq (pre ++ g) y post (by simp)
    have hb : inB ((pre.length + g.length : Nat) : Int) pl.length = true:=Jh.2 (by rw [hlen]; simp; omega)
    rw [if_pos (by rw [hlen]; simp; omega),Ft hb,Ft hb0,hy,h0]
    have hne : decide (y.Race = g0.Race) = false:=decide_eq_false fun e=>hn g0 (by rw [e0]; simp) y rfl e.symm
    rw [hne,Bool.and_false,if_neg (by simp)]
  | succ d =>
   have hkg : k < g.length:=by omega
   have hk : nth pl ((pre.length + k : Nat) : Int) = g[k]:=by
    unfold nth
    rw [Int.toNat_natCast,List.getD,hp,List.getElem?_append_right (by omega),Nat.add_sub_cancel_left,List.getElem?_append_left hkg,List.getElem?_eq_getElem hkg]; rfl
   have hb : inB ((pre.length + k : Nat) : Int) pl.length = true:=Jh.2 (by rw [hlen]; omega)
   have hlt : ((pre.length + k : Nat) : Int) < (pl.length : Int):=by rw [hlen]; omega
   rw [if_pos (decide_eq_true hlt),Ft hb,Ft hb0,hk,h0]
   have heq : g[k].Race = g0.Race:=hg.2 _ (List.getElem_mem hkg) _ (by rw [e0]; simp)
   rw [if_pos (by simp only [heq,decide_true,Bool.and_true]; exact decide_eq_true hlt),Mw (by omega) (by omega)]
   have:=CT pl pre g post hp hg hn hl j d m (k + 1) (by omega) (by omega) (by omega)
   rw [show ((pre.length + k : Nat) : Int) + 1 = ((pre.length + (k + 1) : Nat) : Int) by omega]
   exact this
theorem CU (pl : List An) (hl : pl.length ≤ 1000) (j : List (List An) → Option (List (List An))) : ∀ (Gs : List (List An)) (pre : List An) (x1 : List (List An)) (m : Nat),pl = pre ++ Gs.flatten → Gs.length < m → x1.length + Gs.length ≤ 10000 →
  (∀ g ∈ Gs,One g) → Gs.Pairwise (fun g g'=>∀ x ∈ g,∀ y ∈ g',x.Race ≠ y.Race) → Ic pl j m x1 (pre.length : Int) = j (x1 ++ Gs)
 | Gs,pre,x1,0,_,h,_,_,_=>by omega
 | [],pre,x1,m + 1,h1,_,_,_,_=>by
  have : pl.length = pre.length:=by rw [h1]; simp
  rw [Ic,if_neg (by rw [this]; simp),List.append_nil]
 | g :: Gs,pre,x1,m + 1,h1,h2,h3,h4,h5=>by
  have hg:=h4 g List.mem_cons_self
  have hpos : 0 < g.length:=List.length_pos_iff.2 hg.1
  have hp : pl = pre ++ (g ++ Gs.flatten):=by rw [h1]; simp
  have hlen : pl.length = pre.length + (g.length + Gs.flatten.length):=by rw [hp]; simp
  obtain ⟨p1,p2⟩:=List.pairwise_cons.1 h5
  rw [Ic,if_pos (by rw [hlen]; simp; omega)]
  simp only [He]
  have hhead : ∀ x ∈ g,∀ y,Gs.flatten.head? = some y → x.Race ≠ y.Race:=by
   intro x hx y hy
   cases Gs with
   | nil=>simp at hy
   | cons g' Gs =>
    have hg':=h4 g' (by simp)
    cases g' with
    | nil=>exact (hg'.1 rfl).elim
    | cons a b=>simp at hy; subst hy; exact p1 (a :: b) List.mem_cons_self x hx a List.mem_cons_self
  have hk:=CT pl pre g Gs.flatten hp hg hhead hl (fun x3=>Chk (Vw (pre.length : Int) x3 pl.length) (Chk (Qt x1.length) (Ic pl j m (x1 ++ [cut pl (pre.length : Int) x3]) x3))) (g.length - 1) (((pl.length : Int) - (W ((pre.length : Int) + 1))).toNat + 2) 1 (by omega) (by omega) (by rw [Mw (by omega) (by omega)]; omega)
  rw [Mw (by omega) (by omega)] at hk ⊢
  rw [show (pre.length : Int) + 1 = ((pre.length + 1 : Nat) : Int) by omega] at hk ⊢
  rw [hk,Ft (Pr.2 (by omega)),Ft (by unfold Qt; simp; simp at h3; omega)]
  have hcut : cut pl (pre.length : Int) ((pre.length + g.length : Nat) : Int) = g:=by
   unfold cut
   rw [hp,Int.toNat_natCast,Int.toNat_natCast,← List.append_assoc,List.take_left' (by simp),List.drop_left]
  rw [hcut]
  have ih:=CU pl hl j Gs (pre ++ g) (x1 ++ [g]) m (by rw [hp]; simp) (by simp at h2; omega) (by simp at h3 ⊢; omega) (fun g' h'=>h4 g' (List.mem_cons_of_mem _ h')) p2
  rw [List.length_append] at ih
  rw [ih]; simp
theorem FH : ∀ (Gs : List (List An)),(∀ g ∈ Gs,One g) → Gs.length ≤ Gs.flatten.length
 | [],_=>by simp
 | g :: Gs,h=>by
  have:=FH Gs fun g' h'=>h g' (List.mem_cons_of_mem _ h')
  have:=List.length_pos_iff.2 (h g List.mem_cons_self).1
  rw [List.flatten_cons,List.length_append,List.length_cons]; omega
theorem CV (Gs : List (List An)) (h1 : ∀ g ∈ Gs,One g) (h2 : Gs.Pairwise (fun g g'=>∀ x ∈ g,∀ y ∈ g',x.Race ≠ y.Race)) (hl : Gs.flatten.length ≤ 1000) : Ng Gs.flatten = some Gs:=by
 unfold Ng
 simp only [He]
 have hf:=FH Gs h1
 have:=CU Gs.flatten hl (fun x1=>some x1) Gs [] [] (((Gs.flatten.length : Int) - 0).toNat + 2) rfl (by omega) (by simp; omega) h1 h2
 simpa using this
structure TOk (t : Hx) : Prop where
 len : t.Points.length ≤ 5
 rng : ∀ n ∈ t.Points,0 ≤ n ∧ n ≤ 10
 rel : 1 ≤ t.Relay ∧ t.Relay ≤ 2
 most : 0 ≤ t.Most ∧ t.Most ≤ 2
def Qc (L : List An) (r : Cs) : Prop:=r.x_ ∈ L ∧ r.x_.Club ≠ Cy ∧ ∃ v,v ≤ 6000 ∧ r.points_ = fr v
theorem BW (t : Hx) (L : List An) (j : List (ByteArray × Int) → List Int → List Cs → Option (List Cs)) : ∀ (ys : List An) (i : Nat) (x1 : List (ByteArray × Int)) (x2 : List Int) (x3 : List Cs),(∀ y ∈ ys,y ∈ L) →
  (∀ s ∈ x2,0 ≤ s ∧ s < x3.length) → x2.length ≤ x3.length → x3.length + ys.length ≤ 5 → (∀ r ∈ x3,Qc L r) →
  ∃ mp sw out,Jc t j ys i x1 x2 x3 = j mp sw out ∧ (∀ s ∈ sw,0 ≤ s ∧ s < out.length) ∧ sw.length ≤ out.length ∧ out.length ≤ x3.length + ys.length ∧ (∀ r ∈ out,Qc L r)
 | [],i,x1,x2,x3,_,h1,h2,_,h4=>⟨x1,x2,x3,rfl,h1,h2,by simp,h4⟩
 | y :: ys,i,x1,x2,x3,h0,h1,h2,h3,h4=>by
  simp only [List.length_cons] at h3 ⊢
  rw [Jc]
  simp only [He]
  have hys : ∀ z ∈ ys,z ∈ L:=fun z hz=>h0 z (List.mem_cons_of_mem _ hz)
  by_cases hc : (decide (y.Rank = 0) || decide (y.Club = Cy)) = true
  ·rw [if_pos hc]
   obtain ⟨mp,sw,out,e,g1,g2,g3,g4⟩:=BW t L j ys (i + 1) x1 x2 x3 hys h1 h2 (by omega) h4
   exact ⟨mp,sw,out,e,g1,g2,by omega,g4⟩
  ·rw [if_neg hc]
   simp only [Bool.or_eq_true,decide_eq_true_eq,not_or] at hc
   have hok : ∀ r ∈ x3 ++ [(Cs.mk y Gd)],Qc L r:=fun r hr=>by
    rcases List.mem_append.1 hr with hr | hr
    ·exact h4 r hr
    ·obtain rfl:=List.mem_singleton.1 hr
     exact ⟨h0 y List.mem_cons_self,hc.2,0,by omega,FF⟩
   have go : ∀ x7 : List Int,(∀ s ∈ x7,0 ≤ s ∧ s < (x3 ++ [(Cs.mk y Gd)]).length) → x7.length ≤ x3.length + 1 → ∃ mp sw out,Jc t j ys (i + 1) (Es x1 y.Club (W ((Ff x1 y.Club 0) + 1))) x7 (x3 ++ [(Cs.mk y Gd)]) = j mp sw out ∧ (∀ s ∈ sw,0 ≤ s ∧ s < out.length) ∧ sw.length ≤ out.length ∧ out.length ≤ x3.length + (ys.length + 1) ∧ (∀ r ∈ out,Qc L r):=by
    intro x7 k1 k2
    obtain ⟨mp,sw,out,e,g1,g2,g3,g4⟩:=BW t L j ys (i + 1) (Es x1 y.Club (W ((Ff x1 y.Club 0) + 1))) x7 (x3 ++ [(Cs.mk y Gd)]) hys k1 (by simp; omega) (by simp; omega) hok
    exact ⟨mp,sw,out,e,g1,g2,by simp at g3; omega,g4⟩
   split
   ·rw [Ft (by unfold Qt; simp; omega),Ft (by unfold Qt; simp; omega)]
    refine go _ (fun s hs=>?_) (by simp; omega)
    rcases List.mem_append.1 hs with hs | hs
    ·have:=h1 s hs; simp; omega
    ·obtain rfl:=List.mem_singleton.1 hs; simp; omega
   ·rw [Ft (by unfold Qt; simp; omega)]
    refine go _ (fun s hs=>?_) (by omega)
    have:=h1 s hs; simp; omega
theorem FI (t : Hx) (ht : TOk t) (x2 : List Int) (x8 : List Cs) (hs : ∀ s ∈ x2,0 ≤ s ∧ s < x8.length) (h5 : x2.length ≤ 5) (i : Nat) (hi : i < x2.length) (j : Int → Int → Option (List Cs)) : ∀ (d m k : Nat) (s : Int),x2.length = k + d → d < m → i ≤ k → 0 ≤ s → s ≤ 10 * k →
  ∃ (k' : Nat) (s' : Int),Jd t x2 x8 (i : Int) j m (k : Int) s = j (k' : Int) s' ∧ k ≤ k' ∧ k' ≤ x2.length ∧ 0 ≤ s' ∧ s' ≤ 10 * k' ∧ (k = i → i < k')
 | d,0,_,_,_,h,_,_,_=>by omega
 | d,m + 1,k,s,h1,h2,h3,h4,h6=>by
  rw [Jd]
  simp only [He]
  have hx : ∀ q : Nat,q < x2.length → inB (q : Int) x2.length = true ∧ inB (nth x2 (q : Int)) x8.length = true:=fun q hq=>by
   have hb : inB (q : Int) x2.length = true:=Jh.2 (by omega)
   have:=hs _ (List.mem_of_getElem? (Db hb).1)
   exact ⟨hb,Jh.2 this⟩
  cases d with
  | zero =>
   have hk : k = x2.length:=by omega
   subst hk
   rw [if_neg (by simp)]
   simp only [Int.lt_irrefl,decide_false,Bool.false_and,Bool.false_eq_true,if_false]
   exact ⟨x2.length,s,rfl,by omega,by omega,h4,h6,by omega⟩
  | succ d =>
   have hkl : k < x2.length:=by omega
   have hlt : decide ((k : Int) < (x2.length : Int)) = true:=decide_eq_true (by omega)
   rw [if_pos hlt,Ft (hx k hkl).1,Ft (hx k hkl).2,Ft (hx i hi).1,Ft (hx i hi).2,hlt,Bool.true_and]
   split
   ·have hw : W ((k : Int) + 1) = ((k + 1 : Nat) : Int):=by rw [Mw (by omega) (by omega)]; rfl
    have next : ∀ s2 : Int,0 ≤ s2 → s2 ≤ s + 10 → ∃ (k' : Nat) (s' : Int),Jd t x2 x8 (i : Int) j m (W ((k : Int) + 1)) s2 = j (k' : Int) s' ∧ k ≤ k' ∧ k' ≤ x2.length ∧ 0 ≤ s' ∧ s' ≤ 10 * k' ∧ (k = i → i < k'):=by
     intro s2 g1 g2
     rw [hw]
     obtain ⟨k',s',e,q1,q2,q3,q4,_⟩:=FI t ht x2 x8 hs h5 i hi j d m (k + 1) s2 (by omega) (by omega) (by omega) g1 (by push_cast; omega)
     exact ⟨k',s',e,by omega,q2,q3,q4,by omega⟩
    by_cases hp : (k : Int) < (t.Points.length : Int)
    ·have hb : inB (k : Int) t.Points.length = true:=Jh.2 (by omega)
     have hr:=ht.rng _ (List.mem_of_getElem? (Db hb).1)
     have hw2 : W (s + nth t.Points (k : Int)) = s + nth t.Points (k : Int):=Mw (by omega) (by omega)
     rw [if_pos (decide_eq_true hp),Ft hb,hw2]
     exact next _ (by omega) (by omega)
    ·rw [if_neg (by simpa using hp)]
     exact next s h4 (by omega)
   ·rename_i hne
    exact ⟨k,s,rfl,by omega,by omega,h4,h6,fun e=>by subst e; simp at hne⟩
theorem frac60 {a : Int} {b : Nat} (ha : 0 ≤ a) (ha' : a ≤ 100) (hb : 1 ≤ b) (hb' : b ≤ 5) : ∃ v,v ≤ 6000 ∧ Kp a (b : Int) = some (fr v):=by
 obtain ⟨n,rfl⟩:=Int.eq_ofNat_of_zero_le ha
 have h60 : 60 / b * b = 60:=by
  have : b = 1 ∨ b = 2 ∨ b = 3 ∨ b = 4 ∨ b = 5:=by omega
  rcases this with rfl | rfl | rfl | rfl | rfl <;> rfl
 have hle : 60 / b ≤ 60:=Nat.div_le_self _ _
 refine ⟨n * (60 / b),?_,FE (by omega) (by rw [Nat.mul_assoc,h60]) (by omega) (by omega)⟩
 calc n * (60 / b) ≤ 100 * 60:=Nat.mul_le_mul (by omega) hle
  _ = 6000:=rfl
theorem FJ (L : List An) (x2 : List Int) (i k : Nat) (a : Int) (ha : 0 ≤ a) (ha' : a ≤ 100) (hik : i < k) (hk : k ≤ x2.length) (h5 : x2.length ≤ 5) (j : List Cs → Option (List Cs)) : ∀ (d m q : Nat) (x15 : List Cs),k - i = q + d → d < m → (∀ s ∈ x2,0 ≤ s ∧ s < x15.length) → (∀ r ∈ x15,Qc L r) →
  ∃ out,Ie (k : Int) (i : Int) a x2 j m x15 (q : Int) = j out ∧ out.length = x15.length ∧ (∀ r ∈ out,Qc L r)
 | d,0,_,_,_,h,_,_=>by omega
 | d,m + 1,q,x15,h1,h2,h3,h4=>by
  rw [Ie]
  simp only [Int.toNat_natCast]
  cases d with
  | zero =>
   rw [if_neg (by simp; omega)]
   exact ⟨x15,rfl,rfl,h4⟩
  | succ d =>
   rw [if_pos (by simp; omega),Ft (Jh.2 (by omega))]
   have hw : W ((k : Int) - (i : Int)) = ((k - i : Nat) : Int):=by rw [Mw (by omega) (by omega)]; omega
   obtain ⟨v,hv,e⟩:=frac60 ha ha' (b:=k - i) (by omega) (by omega)
   rw [hw,e,Option.bind_some]
   have hcut : (cut x2 (i : Int) (k : Int))[q]? = x2[i + q]?:=by
    unfold cut
    rw [Int.toNat_natCast,Int.toNat_natCast,List.getElem?_drop,List.getElem?_take,if_pos (by omega)]
   have hm : nth (cut x2 (i : Int) (k : Int)) (q : Int) ∈ x2:=by
    unfold nth
    rw [Int.toNat_natCast,List.getD,hcut,List.getElem?_eq_getElem (by omega)]
    exact List.getElem_mem _
   have hs:=h3 _ hm
   generalize nth (cut x2 (i : Int) (k : Int)) (q : Int) = z at hs hm
   have hb : inB z x15.length = true:=Jh.2 hs
   rw [Ft hb,show W ((q : Int) + 1) = ((q + 1 : Nat) : Int) by rw [Mw (by omega) (by omega)]; rfl]
   have hz:=h4 _ (List.mem_of_getElem? (Db hb).1)
   obtain ⟨out,e2,g1,g2⟩:=FJ L x2 i k a ha ha' hik hk h5 j d m (q + 1) (x15.set z.toNat (Cs.mk ((nth x15 z).x_) (fr v))) (by omega) (by omega) (fun s hs=>by rw [List.length_set]; exact h3 s hs) (fun r hr=>by
    rcases List.mem_or_eq_of_mem_set hr with hr | rfl
    ·exact h4 r hr
    ·exact ⟨hz.1,hz.2.1,v,hv,rfl⟩)
   exact ⟨out,e2,by rw [g1,List.length_set],g2⟩
theorem FK (t : Hx) (ht : TOk t) (L g : List An) (hg : g ≠ []) (x2 : List Int) (h5 : x2.length ≤ 5) (j : List Cs → Option (List Cs)) : ∀ (m i : Nat) (x8 : List Cs),x2.length - i < m → i ≤ x2.length → (∀ s ∈ x2,0 ≤ s ∧ s < x8.length) → (∀ r ∈ x8,Qc L r) →
  ∃ out,Hd x2 g t j m x8 (i : Int) = j out ∧ out.length = x8.length ∧ (∀ r ∈ out,Qc L r)
 | 0,_,_,h,_,_,_=>by omega
 | m + 1,i,x8,h1,h2,h3,h4=>by
  rw [Hd]
  by_cases hi : i < x2.length
  ·rw [if_pos (by simp; omega)]
   simp only [He]
   have hg0 : inB 0 g.length = true:=Jh.2 ⟨by omega,by have:=List.length_pos_iff.2 hg; omega⟩
   obtain ⟨k',s',e,q1,q2,q3,q4,q5⟩:=FI t ht x2 x8 h3 h5 i hi (fun x10 x11=>Chk (inB 0 g.length) (if (nth g 0).Relay = true then Chk (Vw (i : Int) x10 x2.length) (Ie x10 (i : Int) (W (x11 * t.Relay)) x2 (fun x15=>Hd x2 g t j m x15 x10) ((((x10.toNat - (i : Int).toNat : Nat) : Int) - 0).toNat + 2) x8 0) else Chk (Vw (i : Int) x10 x2.length) (Ie x10 (i : Int) x11 x2 (fun x15=>Hd x2 g t j m x15 x10) ((((x10.toNat - (i : Int).toNat : Nat) : Int) - 0).toNat + 2) x8 0))) (x2.length - i) (((x2.length : Int) - (i : Int)).toNat + 2) i 0 (by omega) (by omega) (by omega) (by omega) (by omega)
   rw [e,Ft hg0]
   have hik:=q5 rfl
   have hs50 : s' ≤ 50:=by omega
   have fin : ∀ a : Int,0 ≤ a → a ≤ 100 → ∃ out,Chk (Vw (i : Int) (k' : Int) x2.length) (Ie (k' : Int) (i : Int) a x2 (fun x15=>Hd x2 g t j m x15 (k' : Int)) (((((k' : Int).toNat - (i : Int).toNat : Nat) : Int) - 0).toNat + 2) x8 0) = j out ∧ out.length = x8.length ∧ (∀ r ∈ out,Qc L r):=by
    intro a ha ha'
    rw [Ft (Pr.2 (by omega))]
    obtain ⟨o1,e1,g1,g2⟩:=FJ L x2 i k' a ha ha' hik q2 h5 (fun x15=>Hd x2 g t j m x15 (k' : Int)) (k' - i) (((((k' : Int).toNat - (i : Int).toNat : Nat) : Int) - 0).toNat + 2) 0 x8 (by omega) (by simp) h3 h4
    obtain ⟨o2,e2,g3,g4⟩:=FK t ht L g hg x2 h5 j m k' o1 (by omega) q2 (fun s hs=>by rw [g1]; exact h3 s hs) g2
    exact ⟨o2,e1.trans e2,by omega,g4⟩
   have hrel:=ht.rel
   split
   ·have hr2 : t.Relay = 1 ∨ t.Relay = 2:=by omega
    have hm : 0 ≤ s' * t.Relay ∧ s' * t.Relay ≤ 100:=by rcases hr2 with h | h <;> rw [h] <;> omega
    rw [Mw (by omega) (by omega)]
    exact fin _ hm.1 hm.2
   ·exact fin _ q3 (by omega)
  ·rw [if_neg (by simp; omega)]
   exact ⟨x8,rfl,rfl,h4⟩
theorem race_is (t : Hx) (ht : TOk t) (L g : List An) (hg : g ≠ []) (h5 : g.length ≤ 5) (hL : ∀ x ∈ g,x ∈ L) : ∃ R,Pz t g = some R ∧ R.length ≤ g.length ∧ ∀ r ∈ R,Qc L r:=by
 unfold Pz
 simp only [He]
 obtain ⟨mp,sw,out,e,g1,g2,g3,g4⟩:=BW t L (fun _ x2 x3=>Hd x2 g t (fun x8=>some x8) (((x2.length : Int) - 0).toNat + 2) x3 0) g 0 [] [] [] hL (fun _ h=>by cases h) (Nat.le_refl _) (by simpa using h5) (fun _ h=>by cases h)
 simp only [List.length_nil,Nat.zero_add] at g3
 rw [e]
 obtain ⟨o,e2,k1,k2⟩:=FK t ht L g hg sw (by omega) (fun x8=>some x8) (((sw.length : Int) - 0).toNat + 2) 0 out (by omega) (by omega) g1 g4
 exact ⟨o,by rw [← e2]; rfl,by omega,k2⟩
theorem IJ (t : Hx) (ht : TOk t) (L : List An) (j : List Cs → Option (List Cs)) : ∀ (Gs : List (List An)) (i : Nat) (x1 : List Cs),(∀ g ∈ Gs,g ≠ [] ∧ g.length ≤ 5 ∧ ∀ x ∈ g,x ∈ L) → x1.length + Gs.flatten.length ≤ 10000 → (∀ r ∈ x1,Qc L r) →
  ∃ R,Jo t j Gs i x1 = j R ∧ R.length ≤ x1.length + Gs.flatten.length ∧ ∀ r ∈ R,Qc L r
 | [],i,x1,_,_,h=>⟨x1,rfl,by simp,h⟩
 | g :: Gs,i,x1,h1,h2,h3=>by
  obtain ⟨k1,k2,k3⟩:=h1 g List.mem_cons_self
  obtain ⟨R,e,g1,g2⟩:=race_is t ht L g k1 k2 k3
  simp only [List.flatten_cons,List.length_append] at h2 ⊢
  rw [Jo,e,Option.bind_some,Ft (by simp; omega)]
  obtain ⟨R2,e2,g3,g4⟩:=IJ t ht L j Gs (i + 1) (x1 ++ R) (fun g' h'=>h1 g' (List.mem_cons_of_mem _ h')) (by rw [List.length_append]; omega) (fun r hr=>by
   rcases List.mem_append.1 hr with hr | hr
   ·exact h3 r hr
   ·exact g2 r hr)
  simp only [List.length_append] at g3
  exact ⟨R2,e2,by omega,g4⟩
theorem rows_is (t : Hx) (ht : TOk t) (Gs : List (List An)) (h1 : ∀ g ∈ Gs,One g ∧ g.length ≤ 5) (h2 : Gs.Pairwise (fun g g'=>∀ x ∈ g,∀ y ∈ g',x.Race ≠ y.Race)) (hl : Gs.flatten.length ≤ 15) : ∃ R,Nc t Gs.flatten = some R ∧ R.length ≤ 15 ∧ ∀ r ∈ R,Qc Gs.flatten r:=by
 unfold Nc
 rw [CV Gs (fun g hg=>(h1 g hg).1) h2 (by omega)]
 simp only [Option.bind_some,He]
 obtain ⟨R,e,g1,g2⟩:=IJ t ht Gs.flatten (fun x1=>some x1) Gs 0 [] (fun g hg=>⟨(h1 g hg).1.1,(h1 g hg).2,fun x hx=>List.mem_flatten.2 ⟨g,hg,hx⟩⟩) (by rw [List.length_nil]; omega) (fun _ h=>by cases h)
 exact ⟨R,e,by rw [List.length_nil] at g1; omega,g2⟩
end Go.Proofs.YtfdcgchgkojfiaaGreatDoor
namespace Go.Proofs.YtfdcgchgkojfiaaGreatDoor
open Go
def Se (l : List ByteArray) : List ByteArray:=((l.map fun b=>b.data.toList).mergeSort fun x y=>decide (x ≤ y)).map fun b=>⟨b.toArray⟩
end Go.Proofs.YtfdcgchgkojfiaaGreatDoor
namespace Go.Proofs.YtfdcgchgkojfiaaGreatDoor
open Go
section
variable {α : Type}
theorem AK {lt : α → α → Bool} (ht : ∀ x y z,lt x y = true → lt y z = true → lt x z = true) (x : α) : ∀ rp : List α,rp.Pairwise (fun a b=>lt b a = true) → (∀ y ∈ rp,lt x y = false → lt y x = true) → (Of lt x rp).Pairwise fun a b=>lt b a = true
 | [],_,_=>by simp [Of]
 | y :: r,h,hx=>by
  rw [List.pairwise_cons] at h
  unfold Of
  cases hxy : lt x y with
  | true =>
   rw [if_pos rfl]
   refine List.pairwise_cons.2 ⟨fun z hz=>?_,AK ht x r h.2 fun z hz=>hx z (List.mem_cons_of_mem _ hz)⟩
   rcases (Sd lt x z r).1 hz with rfl | hz
   ·exact hxy
   ·exact h.1 z hz
  | false =>
   rw [if_neg (by simp)]
   have h1:=hx y (by simp) hxy
   refine List.pairwise_cons.2 ⟨fun z hz=>?_,List.pairwise_cons.2 h⟩
   rcases List.mem_cons.1 hz with rfl | hz
   ·exact h1
   ·exact ht z y x (h.1 z hz) h1
theorem Za {lt : α → α → Bool} (ht : ∀ x y z,lt x y = true → lt y z = true → lt x z = true) : ∀ l rp : List α,rp.Pairwise (fun a b=>lt b a = true) → (∀ x ∈ l,∀ y ∈ rp,lt x y = false → lt y x = true) → l.Pairwise (fun a b=>lt b a = false → lt a b = true) →
  (Qb lt l rp).Pairwise fun a b=>lt b a = true
 | [],rp,h,_,_=>h
 | x :: l,rp,h,h1,h2=>by
  rw [List.pairwise_cons] at h2
  show (Qb lt l (Of lt x rp)).Pairwise _
  refine Za ht l _ (AK ht x rp h (h1 x (by simp))) (fun z hz y hy=>?_) h2.2
  rcases (Sd lt x y rp).1 hy with rfl | hy
  ·exact h2.1 z hz
  ·exact h1 z (List.mem_cons_of_mem _ hz) y hy
theorem Xg {lt : α → α → Bool} (ht : ∀ x y z,lt x y = true → lt y z = true → lt x z = true) (l : List α) (h : l.Pairwise fun a b=>lt b a = false → lt a b = true) : (Lx lt l).Pairwise fun a b=>lt a b = true:=by
 unfold Lx
 rw [List.pairwise_reverse]
 exact Za ht l [] List.Pairwise.nil (fun _ _ _ h=>by cases h) h
theorem Sf (lt : α → α → Bool) (l : List α) (z : α) : z ∈ Lx lt l ↔ z ∈ l:=by
 unfold Lx
 rw [List.mem_reverse,AJ]
 simp
theorem FL {lt : α → α → Bool} (hi : ∀ x,lt x x = false) (ht : ∀ x y z,lt x y = true → lt y z = true → lt x z = true) : ∀ A B : List α,A.Pairwise (fun a b=>lt a b = true) → B.Pairwise (fun a b=>lt a b = true) → (∀ x,x ∈ A ↔ x ∈ B) → A = B
 | [],[],_,_,_=>rfl
 | [],b :: B,_,_,h=>by have:=(h b).2 (by simp); cases this
 | a :: A,[],_,_,h=>by have:=(h a).1 (by simp); cases this
 | a :: A,b :: B,hA,hB,h=>by
  rw [List.pairwise_cons] at hA hB
  have hab : a = b:=by
   rcases List.mem_cons.1 ((h a).1 (by simp)) with e | h1
   ·exact e
   ·rcases List.mem_cons.1 ((h b).2 (by simp)) with e | h2
    ·exact e.symm
    ·have:=ht a b a (hA.1 b h2) (hB.1 a h1)
     rw [hi] at this
     cases this
  subst hab
  have : A = B:=FL hi ht A B hA.2 hB.2 fun x=>by
   have hx:=h x
   constructor
   ·intro hm
    rcases List.mem_cons.1 (hx.1 (List.mem_cons_of_mem _ hm)) with rfl | h3
    ·have:=hA.1 x hm; rw [hi] at this; cases this
    ·exact h3
   ·intro hm
    rcases List.mem_cons.1 (hx.2 (List.mem_cons_of_mem _ hm)) with rfl | h3
    ·have:=hB.1 x hm; rw [hi] at this; cases this
    ·exact h3
  rw [this]
theorem Zb (lt : α → α → Bool) : ∀ l rp : List α,(Qb lt l rp).length = l.length + rp.length
 | [],rp=>by simp [Qb]
 | x :: l,rp=>by
  show (Qb lt l (Of lt x rp)).length = _
  rw [Zb lt l,Ug]
  simp only [List.length_cons]
  omega
theorem Vp (lt : α → α → Bool) (l : List α) : (Lx lt l).length = l.length:=by
 unfold Lx
 rw [List.length_reverse,Zb]
 simp
theorem CW {lt : α → α → Bool} (hi : ∀ x,lt x x = false) (ht : ∀ x y z,lt x y = true → lt y z = true → lt x z = true) (A B : List α) (h : A.Pairwise fun a b=>lt b a = false → lt a b = true) (hB : B.Pairwise fun a b=>lt a b = true) (hm : ∀ x,x ∈ A ↔ x ∈ B) : Lx lt A = B :=
 FL hi ht _ _ (Xg ht A h) hB fun x=>by rw [Sf,hm]
theorem Zc {lt lt' : α → α → Bool} (x : α) : ∀ rp : List α,(∀ y ∈ rp,lt x y = lt' x y) → Of lt x rp = Of lt' x rp
 | [],_=>rfl
 | y :: r,h=>by
  unfold Of
  rw [h y (by simp),Zc x r fun z hz=>h z (List.mem_cons_of_mem _ hz)]
theorem Xn {lt lt' : α → α → Bool} : ∀ l rp : List α,(∀ x ∈ l,∀ y,y ∈ l ∨ y ∈ rp → lt x y = lt' x y) → Qb lt l rp = Qb lt' l rp
 | [],_,_=>rfl
 | x :: l,rp,h=>by
  show Qb lt l (Of lt x rp) = Qb lt' l (Of lt' x rp)
  rw [Zc x rp fun y hy=>h x (by simp) y (.inr hy)]
  refine Xn l _ fun z hz y hy=>h z (List.mem_cons_of_mem _ hz) y ?_
  rcases hy with hy | hy
  ·exact .inl (List.mem_cons_of_mem _ hy)
  ·rcases (Sd lt' x y rp).1 hy with rfl | hy
   ·exact .inl (by simp)
   ·exact .inr hy
theorem Xo {lt lt' : α → α → Bool} (l : List α) (h : ∀ x ∈ l,∀ y ∈ l,lt x y = lt' x y) : Lx lt l = Lx lt' l:=by
 unfold Lx
 rw [Xn l [] fun x hx y hy=>h x hx y (by rcases hy with hy | hy; exact hy; cases hy)]
theorem AL (lt : α → α → Bool) (x : α) : ∀ rp : List α,(Of lt x rp).Perm (x :: rp)
 | []=>List.Perm.refl _
 | y :: r=>by
  unfold Of
  split
  ·exact ((AL lt x r).cons y).trans (List.Perm.swap x y r)
  ·exact List.Perm.refl _
theorem Zd (lt : α → α → Bool) : ∀ l rp : List α,(Qb lt l rp).Perm (l ++ rp)
 | [],_=>List.Perm.refl _
 | x :: l,rp=>(Zd lt l (Of lt x rp)).trans (((AL lt x rp).append_left l).trans List.perm_middle)
theorem Rc (lt : α → α → Bool) (l : List α) : (Lx lt l).Perm l:=by
 have h:=Zd lt l []
 rw [List.append_nil] at h
 exact (List.reverse_perm _).trans h
def nbF [DecidableEq α] (p : α) : List α → List α
 | []=>[]
 | y :: r=>if y = p then nbF y r else y :: nbF y r
def nb [DecidableEq α] : List α → List α
 | []=>[]
 | x :: r=>x :: nbF x r
variable {R : Type} [Inhabited α]
end
end Go.Proofs.YtfdcgchgkojfiaaGreatDoor
namespace Go.Proofs.YtfdcgchgkojfiaaGreatDoor
open Go
theorem CX {κ ν : Type} [DecidableEq κ] (k k' : κ) (v : ν) : ∀ (m : List (κ × ν)) (i : Nat),(Iy (Es m k v) k' i).map (·.2) = if k' = k then some v else (Iy m k' i).map (·.2)
 | [],i=>by
  by_cases h : k' = k <;> simp [Es,Iy,h]
 | (q,u) :: m,i=>by
  by_cases h1 : k = q
  ·subst h1
   by_cases h2 : k' = k <;> simp [Es,Iy,h2]
  ·by_cases h2 : k' = q
   ·subst h2
    simp [Es,Iy,h1]
    exact fun h=>(h1 h.symm).elim
   ·simp only [Es,h1,if_false,Iy,h2]
    exact CX k k' v m (i + 1)
theorem Ur {κ ν : Type} [DecidableEq κ] (m : List (κ × ν)) (k k' : κ) (v d : ν) : Ff (Es m k v) k' d = if k' = k then v else Ff m k' d:=by
 unfold Ff Ps
 rw [CX]
 split <;> simp
end Go.Proofs.YtfdcgchgkojfiaaGreatDoor
namespace Go.Proofs.YtfdcgchgkojfiaaGreatDoor
open Go
def Dr {α : Type} (a k : Int) (Q : α → Prop) (o : Option (α × Int)) : Prop:=∃ v b,o = some (v,b) ∧ a ≤ b ∧ b ≤ a + k ∧ Q v
abbrev Wp (L : List Int) : Prop:=(L.length : Int) ≤ 9223372036854775807
section
variable {L : List Int} (hL : Wp L) {a : Int} (h0 : 0 ≤ a) (h1 : a ≤ 1000000000000)
include hL h0 h1
theorem Us (l : List Int) (hl : 0 < l.length) (hl' : l.length ≤ 1000) : Dr a 1 (fun v=>v ∈ l) (Ki L a l):=by
 obtain ⟨v,e,g⟩:=FC L a l h0 (by omega) hL hl hl'
 exact ⟨v,a + 1,e,by omega,by omega,g⟩
theorem BX (n : Int) (hn : n ≤ 4611686018427387904) : Dr a 1 (fun _=>True) (Mi L a n):=by
 obtain ⟨v,e⟩:=FD L a n h0 (by omega) hL hn
 exact ⟨v,a + 1,e,by omega,by omega,trivial⟩
theorem Wq (l : List ByteArray) (hl : 0 < l.length) (hl' : l.length ≤ 1000) : Dr a 1 (fun v=>v ∈ l) (Mj L a l):=by
 obtain ⟨v,e1,h1,h2⟩:=Wm L a (l.length : Int) h0 (by omega) hL (by omega)
 have hc : inB v l.length = true:=Jh.2 ⟨h1,by omega⟩
 unfold Mj
 rw [e1]
 simp only [Option.bind_some]
 rw [Ft hc]
 exact ⟨nth l v,a + 1,rfl,by omega,by omega,List.mem_of_getElem? (Db hc).1⟩
theorem CY (low high : Int) (h2 : -1000000000000 ≤ low) (h3 : low ≤ 1000000000000) (h4 : high ≤ 1000000000000) : Dr a 1 (fun v=>low ≤ v ∧ (v ≤ high ∨ v = low)) (Mh L a low high):=by
 unfold Mh
 by_cases h : high < low
 ·exact ⟨low,a,by simp [h],by omega,by omega,by omega,.inr rfl⟩
 ·have w1 : W (high - low) = high - low:=Mw (by omega) (by omega)
  have w2 : W (high - low + 1) = high - low + 1:=Mw (by omega) (by omega)
  obtain ⟨v,e,g1,g2⟩:=Wm L a (high - low + 1) h0 (by omega) hL (by omega)
  rw [if_neg (by simpa using h),w1,w2,e]
  have w3 : W (low + v) = low + v:=Mw (by omega) (by omega)
  exact ⟨_,_,rfl,by show a ≤ a + 1; omega,by show a + 1 ≤ a + 1; omega,by simp only [w3]; omega⟩
theorem odd_dr (low high : Int) (h2 : -1000000000000 ≤ low) (h3 : low ≤ 1000000000000) (h4 : high ≤ 1000000000000) : Dr a 2 (fun _=>True) (Qw L a low high):=by
 obtain ⟨b,e1⟩:=FD L a 12 h0 (by omega) hL (by omega)
 unfold Qw
 rw [e1]
 simp only [Option.bind_some]
 cases b with
 | true =>
  obtain ⟨v,e,_⟩:=FC L (a + 1) [W (low - 1),W (high + 1),low,high,(-1099511627776),1099511627776] (by omega) (by omega) hL (by simp) (by simp)
  rw [if_pos rfl,e]
  exact ⟨_,_,rfl,by show a ≤ a + 1 + 1; omega,by show a + 1 + 1 ≤ a + 2; omega,trivial⟩
 | false =>
  unfold Mh
  by_cases h : high < low
  ·rw [if_neg (by simp),if_pos (by simpa using h)]
   exact ⟨_,_,rfl,by show a ≤ a + 1; omega,by show a + 1 ≤ a + 2; omega,trivial⟩
  ·have w1 : W (high - low) = high - low:=Mw (by omega) (by omega)
   have w2 : W (high - low + 1) = high - low + 1:=Mw (by omega) (by omega)
   obtain ⟨v,e,g1,g2⟩:=Wm L (a + 1) (high - low + 1) (by omega) (by omega) hL (by omega)
   rw [if_neg (by simp),if_neg (by simpa using h),w1,w2,e]
   exact ⟨_,_,rfl,by show a ≤ a + 1 + 1; omega,by show a + 1 + 1 ≤ a + 2; omega,trivial⟩
end
end Go.Proofs.YtfdcgchgkojfiaaGreatDoor
namespace Go.Proofs.YtfdcgchgkojfiaaGreatDoor
open Go
theorem FM : ∀ l : List UInt8,Lib.compareBytes l l = 0
 | []=>rfl
 | a :: l=>by
  rw [Lib.compareBytes,if_neg (by simp),if_neg (by simp)]; exact FM l
theorem FN : ∀ l m : List UInt8,Lib.compareBytes l m = 0 → l = m
 | [],[],_=>rfl
 | [],_ :: _,h=>by simp [Lib.compareBytes] at h
 | _ :: _,[],h=>by simp [Lib.compareBytes] at h
 | a :: l,b :: m,h=>by
  rw [Lib.compareBytes] at h
  split at h
  ·cases h
  ·split at h
   ·cases h
   ·rename_i h1 h2
    rw [UInt8.lt_iff_toNat_lt] at h1 h2
    rw [FN l m h,show a = b from UInt8.toNat_inj.1 (by omega)]
theorem FO : ∀ l m : List UInt8,Lib.compareBytes m l = - Lib.compareBytes l m
 | [],[]=>rfl
 | [],_ :: _=>rfl
 | _ :: _,[]=>rfl
 | a :: l,b :: m=>by
  rw [Lib.compareBytes,Lib.compareBytes,FO l m]
  simp only [UInt8.lt_iff_toNat_lt]
  by_cases h1 : a.toNat < b.toNat
  ·rw [if_neg (by omega),if_pos h1,if_pos h1]; rfl
  ·by_cases h2 : b.toNat < a.toNat
   ·rw [if_pos h2,if_neg h1,if_pos h2]
   ·rw [if_neg h2,if_neg h1,if_neg h1,if_neg h2]
theorem CZ : ∀ l m k : List UInt8,Lib.compareBytes l m < 0 → Lib.compareBytes m k < 0 → Lib.compareBytes l k < 0
 | l,m,[],_,h=>by cases m <;> simp [Lib.compareBytes] at h
 | [],m,c :: k,_,_=>by simp [Lib.compareBytes]
 | a :: l,[],c :: k,h,_=>by simp [Lib.compareBytes] at h
 | a :: l,b :: m,c :: k,h1,h2=>by
  rw [Lib.compareBytes] at h1 h2 ⊢
  simp only [UInt8.lt_iff_toNat_lt] at h1 h2 ⊢
  by_cases g1 : a.toNat < b.toNat
  ·by_cases g2 : c.toNat < b.toNat
   ·rw [if_neg (by omega),if_pos g2] at h2; cases h2
   ·rw [if_pos (by omega)]; decide
  ·by_cases g1' : b.toNat < a.toNat
   ·rw [if_neg g1,if_pos g1'] at h1; cases h1
   ·rw [if_neg g1,if_neg g1'] at h1
    by_cases g2 : b.toNat < c.toNat
    ·rw [if_pos (by omega)]; decide
    ·by_cases g3 : c.toNat < b.toNat
     ·rw [if_neg g2,if_pos g3] at h2; cases h2
     ·rw [if_neg g2,if_neg g3] at h2
      rw [if_neg (by omega),if_neg (by omega)]
      exact CZ l m k h1 h2
def cB (s t : ByteArray) : Int:=Lib.compareBytes s.data.toList t.data.toList
theorem Ut (s : ByteArray) : cB s s = 0:=FM _
theorem Wr {s t : ByteArray} (h : cB s t = 0) : s = t:=by
 have:=FN _ _ h
 cases s; cases t
 simpa using this
theorem Yn (s t : ByteArray) : cB t s = - cB s t:=FO _ _
theorem Uh {s t u : ByteArray} (h1 : cB s t < 0) (h2 : cB t u < 0) : cB s u < 0:=CZ _ _ _ h1 h2
def leB (s t : ByteArray) : Prop:=cB s t < 0 ∨ s = t
end Go.Proofs.YtfdcgchgkojfiaaGreatDoor
namespace Go.Proofs.YtfdcgchgkojfiaaGreatDoor
open Go
structure AM (t : Hx) : Prop extends TOk t where
 desc : t.Points.Pairwise fun a b=>b ≤ a
section
variable {L : List Int} (hL : Wp L)
include hL
theorem FP (r4 : Int × Int) (j : List Int → Int → Option (Hx × Int)) : ∀ (d m : Nat) (x1 : List Int) (a n q : Int),r4.1 ≤ q + d → d < m → 0 ≤ q → q ≤ 5 → r4.1 ≤ 5 → x1.length = q.toNat → 0 ≤ a → a + d ≤ 1000000 → 0 ≤ n → n ≤ 10 → (∀ v ∈ x1,n ≤ v ∧ v ≤ 10) → x1.Pairwise (fun a b=>b ≤ a) →
  ∃ x b,Gy r4 L j m x1 a n q = j x b ∧ a ≤ b ∧ b ≤ a + d ∧ x.length ≤ 5 ∧ (∀ v ∈ x,0 ≤ v ∧ v ≤ 10) ∧ x.Pairwise (fun a b=>b ≤ a)
 | d,0,_,_,_,_,_,h,_,_,_,_,_,_,_,_,_,_=>absurd h (by omega)
 | d,m + 1,x1,a,n,q,h1,h2,h3,h4,h4',h5,h6,h7,h8,h9,h10,h11=>by
  rw [Gy]
  by_cases hc : q < r4.1
  ·rw [if_pos (decide_eq_true hc),Ft (by unfold Qt; simp; omega)]
   obtain ⟨d,rfl⟩ : ∃ e,d = e + 1:=⟨d - 1,by omega⟩
   obtain ⟨v,b,e,g1,g2,g3⟩:=Us hL h6 (by omega) [0,1,2,3] (by simp) (by simp)
   rw [e]; simp only [Option.bind_some]
   have hv : 0 ≤ v ∧ v ≤ 3:=by simp at g3; omega
   have hn : 0 ≤ Vt 0 (W (n - v)) ∧ Vt 0 (W (n - v)) ≤ n:=by
    rw [Mw (by omega) (by omega)]; unfold Vt; split <;> omega
   rw [show W (q + 1) = q + 1 from Mw (by omega) (by omega)]
   obtain ⟨x,c,r1,r2,r3,r5,r6,r7⟩:=FP r4 j d m (x1 ++ [n]) b (Vt 0 (W (n - v))) (q + 1) (by omega) (by omega) (by omega) (by omega) h4' (by simp; omega) (by omega) (by omega) hn.1 (by omega) (fun v hv=>by
    rcases List.mem_append.1 hv with hv | hv
    ·have:=h10 v hv; omega
    ·obtain rfl:=List.mem_singleton.1 hv; omega) (by
    rw [List.pairwise_append]
    exact ⟨h11,by simp,fun u hu w hw=>by obtain rfl:=List.mem_singleton.1 hw; exact (h10 u hu).1⟩)
   exact ⟨x,c,r1,by omega,by omega,r5,r6,r7⟩
  ·rw [if_neg (by simpa using hc)]
   exact ⟨x1,a,rfl,by omega,by omega,by omega,fun v hv=>by have:=h10 v hv; omega,h11⟩
theorem IK {a : Int} (h0 : 0 ≤ a) (h1 : a ≤ 100000) : Dr a 10 AM (Kw L a):=by
 unfold Kw
 obtain ⟨v1,b1,e1,p1,q1,m1⟩:=Us hL h0 (by omega) [1,2] (by simp) (by simp)
 rw [e1]; simp only [Option.bind_some]
 obtain ⟨v2,b2,e2,p2,q2,m2⟩:=Us hL (a:=b1) (by omega) (by omega) [0,0,1,2] (by simp) (by simp)
 rw [e2]; simp only [Option.bind_some]
 obtain ⟨v3,b3,e3,p3,q3,m3⟩:=Us hL (a:=b2) (by omega) (by omega) [10,9,7,5] (by simp) (by simp)
 rw [e3]; simp only [Option.bind_some]
 obtain ⟨v4,b4,e4,p4,q4,m4,m5⟩:=CY hL (a:=b3) (by omega) (by omega) 0 5 (by omega) (by omega) (by omega)
 rw [e4]; simp only [Option.bind_some,He]
 simp only [List.mem_cons,List.not_mem_nil,or_false] at m1 m2 m3
 obtain ⟨x,b,e,g1,g2,g3,g4,g5⟩:=FP hL (v4,b4) (fun x1 x2=>some ((Hx.mk x1 v1 v2),x2)) v4.toNat ((v4 - 0).toNat + 2) [] b4 v3 0 (by simp only; omega) (by omega) (by omega) (by omega) (by simp only; omega) rfl (by omega) (by omega) (by omega) (by omega) (fun _ h=>by cases h) List.Pairwise.nil
 exact ⟨_,b,e,by omega,by omega,⟨⟨g3,g4,by simp only; omega,by simp only; omega⟩,g5⟩⟩
end
theorem Ze (t : Hx) (ht : AM t) (j : Option Int) : ∀ (ys dn : List Int),t.Points = dn ++ ys → Gz t j ys dn.length = j
 | [],dn,_=>rfl
 | y :: ys,dn,h=>by
  have ih:=Ze t ht j ys (dn ++ [y]) (by rw [h]; simp)
  rw [List.length_append,List.length_singleton] at ih
  have hy:=ht.rng y (by rw [h]; simp)
  have hw : Dd y 0 10000 = true:=by unfold Dd; simp; omega
  have hdl : dn.length ≤ 5:=by have:=ht.len; rw [h] at this; simp at this; omega
  rw [Gz,hw]
  simp only [Bool.not_true,Bool.false_eq_true,if_false,He]
  rcases List.eq_nil_or_concat dn with rfl | ⟨d,x,rfl⟩
  ·simpa using ih
  ·simp only [List.concat_eq_append] at *
   have hlen : ((d ++ [x]).length : Int) = (d.length : Int) + 1:=by simp
   have hn : nth t.Points (d.length : Int) = x:=by
    have : t.Points = d ++ x :: (y :: ys):=by rw [h]; simp
    rw [this]; exact Pq d x (y :: ys) rfl
   have hin : inB (d.length : Int) t.Points.length = true:=Jh.2 (by rw [h]; simp; omega)
   have hle : y ≤ x:=by
    have:=ht.desc
    rw [h,List.pairwise_append] at this
    exact this.2.2 x (by simp) y (by simp)
   have hpos : decide (0 < ((d ++ [x]).length : Int)) = true:=by rw [hlen]; exact decide_eq_true (by omega)
   rw [if_pos hpos,hpos,hlen,show (d.length : Int) + 1 - 1 = (d.length : Int) by omega,Mw (by omega) (by omega),Ft hin,hn,decide_eq_false (by omega)]
   simpa using ih
theorem IL {t : Hx} (ht : AM t) : Mk t = some 0:=by
 have hl:=ht.len
 have hr:=ht.rel
 have hm:=ht.most
 have h1 : Dd t.Relay 1 10 = true:=by unfold Dd; simp; omega
 have h2 : Dd t.Most 0 10 = true:=by unfold Dd; simp; omega
 unfold Mk
 rw [if_neg (by simp; omega)]
 simp only [He,h1,h2,Bool.not_true,Bool.or_self,Bool.false_eq_true,if_false]
 exact Ze t ht (some 0) t.Points [] rfl
def kR (x : An) : Int:=if x.Rank = 0 then 301 else x.Rank
def Sg (x y : An) : Bool:=decide (cB x.Race y.Race < 0 ∨ (x.Race = y.Race ∧ (kR x < kR y ∨ (kR x = kR y ∧ cB x.Who y.Who < 0))))
theorem Sh {x y : An} : Sg x y = true ↔ (cB x.Race y.Race < 0 ∨ (x.Race = y.Race ∧ (kR x < kR y ∨ (kR x = kR y ∧ cB x.Who y.Who < 0)))):=by simp [Sg]
theorem DW (x y z : An) (h1 : Sg x y = true) (h2 : Sg y z = true) : Sg x z = true:=by
 rw [Sh] at *
 rcases h1 with h1 | ⟨e1,h1⟩
 ·rcases h2 with h2 | ⟨e2,_⟩
  ·exact .inl (Uh h1 h2)
  ·exact .inl (by rw [← e2]; exact h1)
 ·rcases h2 with h2 | ⟨e2,h2⟩
  ·exact .inl (by rw [e1]; exact h2)
  ·refine .inr ⟨e1.trans e2,?_⟩
   rcases h1 with h1 | ⟨k1,h1⟩
   ·rcases h2 with h2 | ⟨k2,_⟩ <;> exact .inl (by omega)
   ·rcases h2 with h2 | ⟨k2,h2⟩
    ·exact .inl (by omega)
    ·exact .inr ⟨by omega,Uh h1 h2⟩
theorem DX {x y : An} (h : x.Who ≠ y.Who) (h1 : Sg y x = false) : Sg x y = true:=by
 rw [Sh]
 have h2 : ¬ (cB y.Race x.Race < 0 ∨ (y.Race = x.Race ∧ (kR y < kR x ∨ (kR y = kR x ∧ cB y.Who x.Who < 0)))):=fun h=>by rw [← Sh,h1] at h; cases h
 rw [not_or,not_and,not_or,not_and] at h2
 obtain ⟨g1,g2⟩:=h2
 by_cases e : x.Race = y.Race
 ·right
  refine ⟨e,?_⟩
  obtain ⟨g3,g4⟩:=g2 e.symm
  by_cases hk : kR x = kR y
  ·right
   refine ⟨hk,?_⟩
   have:=g4 hk.symm
   have h0 : cB x.Who y.Who ≠ 0:=fun e=>h (Wr e)
   have:=Yn x.Who y.Who
   omega
  ·left; omega
 ·left
  have h0 : cB x.Race y.Race ≠ 0:=fun e'=>e (Wr e')
  have:=Yn x.Race y.Race
  omega
def RR (x : An) : Prop:=0 ≤ x.Rank ∧ x.Rank ≤ 300
theorem IM (n : Int) : (Oe n < 0) ↔ n < 0:=by
 unfold Oe
 by_cases h : n < 0
 ·simp [h]
 ·by_cases h' : 0 < n
  ·simp [h,h']
  ·simp [h,h']
theorem IP (x : An) : Ew x = kR x:=by
 unfold Ew kR
 simp
theorem BY {x : An} (h : RR x) : 1 ≤ kR x ∧ kR x ≤ 301:=by
 unfold kR; have:=h.1; have:=h.2; split <;> omega
theorem GS {x y : An} (hx : RR x) (hy : RR y) : decide (Ey x y < 0) = Sg x y:=by
 have h1:=BY hx
 have h2:=BY hy
 have hc : Fl x.Race y.Race = cB x.Race y.Race:=rfl
 have hw : Fl x.Who y.Who = cB x.Who y.Who:=rfl
 unfold Ey Sg
 rw [IP,IP,hc,hw]
 by_cases e : x.Race = y.Race
 ·rw [if_neg (by simp [e]),e,Ut]
  by_cases k : kR x = kR y
  ·rw [if_neg (by simp [k])]; simp [k]
  ·rw [if_pos (by simp [k])]
   rw [decide_eq_decide,IM,Mw (by omega) (by omega)]
   simp [k]; omega
 ·rw [if_pos (by simp [e])]
  simp [e]
theorem GT (l : List An) (hl : l.length ≤ 12) : Ei l 0 (l.length : Int) = some (Lx (fun x y=>decide (Ey x y < 0)) l):=by
 unfold Ei
 simp only [Wo]
 have hins : ∀ (k : List An → Option (List An)) (rp : List An) (x : An) (post : List An),((rp ++ x :: post).length : Int) = (l.length : Int) → (∀ y,y ∈ rp ∨ y = x ∨ y ∈ post → y ∈ (rp ++ x :: post)) →
   Da 0 k (((rp.length : Int) - 0).toNat + 2) (rp.reverse ++ x :: post) (rp.length : Int) = k ((Of (fun x y=>decide (Ey x y < 0)) x rp).reverse ++ post):=by
  intro k rp x post h1 _
  exact FG (fun x y k=>k (decide (Ey x y < 0))) (fun x y=>decide (Ey x y < 0)) k (Da 0 k) (fun _ _ _=>rfl) rp x post _ (by omega) (by simp at h1; omega) fun y _ k'=>rfl
 cases l with
 | nil=>rfl
 | cons x l =>
  have hw : W (0 + 1) = (([x] : List An).length : Int):=rfl
  rw [hw]
  exact Ym (fun x y=>decide (Ey x y < 0)) (fun x=>some x) (fun k x i=>Da 0 k ((i - 0).toNat + 2) x i) (Dg ((x :: l).length : Int) 0 fun x=>some x) ((x :: l).length : Int) (fun _ _ _=>rfl)
   (fun k rp x post h1 h2=>hins k rp x post h1 h2) l [x] _ (by simp only [List.length_cons,List.length_nil]; omega) (by simp only [List.length_cons,List.length_nil]; omega) (by simp only [List.length_cons,List.length_nil] at hl ⊢; omega)
theorem IQ : ∀ n : Fin 13,(Ry (IntKind.wrap .u64 (n.val : Int))).isSome = true:=by decide +kernel
theorem IR (l : List An) (hl : l.length ≤ 12) (h : ∀ x ∈ l,RR x) : Ea l = some (Lx Sg l):=by
 unfold Ea
 obtain ⟨r,hr⟩:=Option.isSome_iff_exists.1 (IQ ⟨l.length,by omega⟩)
 simp only at hr
 rw [hr]
 simp only [Option.bind_some]
 unfold Fv
 rw [show (4611686018427387904 : Nat) = 4611686018427387903 + 1 from rfl,Dq,Mw (by omega) (by omega),if_pos (decide_eq_true (by omega)),GT l hl]
 rw [Xo l fun x hx y hy=>GS (h x hx) (h y hy)]
 rfl
def Si : List ByteArray:=[Kx,My,Pv,Pw,Px]
def Rl : List ByteArray:=[Ke,Lz,Ma]
def Ui : List ByteArray:=[Oz,Oz,Yw,Vh,Cy]
structure O0 (race : ByteArray) (rel : Bool) (o : List An) : Prop where
 len : o.length ≤ 5
 row : ∀ x ∈ o,x.Race = race ∧ x.Relay = rel ∧ x.Who ∈ Si ∧ x.Club ∈ Ui ∧ 0 ≤ x.Rank ∧ x.Rank ≤ 4
 who : o.Pairwise fun x y=>x.Who ≠ y.Who
section
variable {L : List Int} (hL : Wp L)
include hL
theorem IS (race : ByteArray) (r1 : Bool × Int) (j : List An → Int → Option (List An × Int)) : ∀ (ys : List ByteArray) (i : Nat) (x3 : List An) (a : Int),ys.Nodup → (∀ y ∈ ys,y ∈ Si) → (∀ x ∈ x3,x.Who ∉ ys) → x3.length + ys.length ≤ 5 → O0 race r1.1 x3 → 0 ≤ a → a + 3 * ys.length ≤ 1000000 →
  ∃ o b,Gh L race r1 j ys i x3 a = j o b ∧ O0 race r1.1 o ∧ a ≤ b ∧ b ≤ a + 3 * ys.length
 | [],i,x3,a,_,_,_,_,h,_,_=>⟨x3,a,rfl,h,by omega,by simp⟩
 | y :: ys,i,x3,a,h1,h2,h3,h4,h5,h6,h7=>by
  obtain ⟨n1,n2⟩:=List.nodup_cons.1 h1
  simp only [List.length_cons] at h4 h7 ⊢
  rw [Gh]
  obtain ⟨f,b,e,g1,g2,_⟩:=BX hL h6 (by omega) 4 (by omega)
  rw [e]; simp only [Option.bind_some,He]
  have hys : ∀ z ∈ ys,z ∈ Si:=fun z hz=>h2 z (List.mem_cons_of_mem _ hz)
  cases f with
  | true =>
   rw [if_neg (by simp)]
   obtain ⟨o,c,e',q1,q2,q3⟩:=IS race r1 j ys (i + 1) x3 b n2 hys (fun x hx hm=>h3 x hx (List.mem_cons_of_mem _ hm)) (by omega) h5 (by omega) (by omega)
   exact ⟨o,c,e',q1,by omega,by omega⟩
  | false =>
   rw [if_pos (by simp)]
   obtain ⟨c,b2,e2,g3,g4,mc⟩:=Wq hL (a:=b) (by omega) (by omega) [Oz,Oz,Yw,Vh,Cy] (by simp) (by simp)
   rw [e2]; simp only [Option.bind_some]
   obtain ⟨v,b3,e3,g5,g6,mv⟩:=Us hL (a:=b2) (by omega) (by omega) [0,1,2,2,3,4] (by simp) (by simp)
   rw [e3]; simp only [Option.bind_some]
   rw [Ft (by unfold Qt; simp; omega)]
   have hv : 0 ≤ v ∧ v ≤ 4:=by simp at mv; omega
   obtain ⟨o,d,e',q1,q2,q3⟩:=IS race r1 j ys (i + 1) (x3 ++ [An.mk race y c v r1.1]) b3 n2 hys (fun x hx hm=>by
    rcases List.mem_append.1 hx with hx | hx
    ·exact h3 x hx (List.mem_cons_of_mem _ hm)
    ·obtain rfl:=List.mem_singleton.1 hx; exact n1 hm) (by simp; omega) ⟨by simp; omega,fun x hx=>by
    rcases List.mem_append.1 hx with hx | hx
    ·exact h5.row x hx
    ·obtain rfl:=List.mem_singleton.1 hx
     exact ⟨rfl,rfl,h2 y List.mem_cons_self,mc,hv.1,hv.2⟩,by
    rw [List.pairwise_append]
    refine ⟨h5.who,by simp,fun x hx z hz he=>?_⟩
    obtain rfl:=List.mem_singleton.1 hz
    exact h3 x hx (by rw [he]; exact List.mem_cons_self)⟩ (by omega) (by omega)
   exact ⟨o,d,e',q1,by omega,by omega⟩
end
def rk (o : List An) (r : Int) : Nat:=1 + o.countP fun z=>decide (0 < z.Rank) && decide (z.Rank < r)
def fR (o : List An) (x : An) : An:=if 0 < x.Rank then An.mk x.Race x.Who x.Club (x.Rank + 10 * (rk o x.Rank : Int)) x.Relay else x
def hR (o : List An) (x : An) : An:=An.mk x.Race x.Who x.Club (if 0 < x.Rank then (rk o x.Rank : Int) else 0) x.Relay
def cnd (x y : An) : Bool:=((decide (0 < y.Rank)) && (decide ((Int.tmod y.Rank 10) < (Int.tmod (x.Rank) 10)))) && (decide (0 < x.Rank))
theorem IT (o : List An) (r : Int) : rk o r ≤ 1 + o.length:=by
 unfold rk; have:=List.countP_le_length (p:=fun z : An=>decide (0 < z.Rank) && decide (z.Rank < r)) (l:=o); omega
theorem IU (x9 : List An) (i3 : Nat) (j : Int → Option (List An × Int)) : ∀ (ys : List An) (i : Nat) (x : Int),0 ≤ x → x + ys.length ≤ 1000 → Fz x9 i3 j ys i x = j (x + (ys.countP (cnd (nth x9 (i3 : Int))) : Nat))
 | [],i,x,_,_=>by rw [Fz]; simp
 | y :: ys,i,x,h1,h2=>by
  simp only [List.length_cons] at h2
  rw [Fz,List.countP_cons]
  simp only [He]
  have hc : (((decide (0 < y.Rank)) && (decide ((Int.tmod y.Rank 10) < (Int.tmod ((nth x9 (i3 : Int)).Rank) 10)))) && (decide (0 < ((nth x9 (i3 : Int)).Rank)))) = cnd (nth x9 (i3 : Int)) y:=rfl
  rw [hc]
  cases hb : cnd (nth x9 (i3 : Int)) y with
  | true =>
   rw [if_pos rfl,Mw (by omega) (by omega),IU x9 i3 j ys (i + 1) (x + 1) (by omega) (by omega)]
   simp only [if_true]
   congr 1; omega
  | false =>
   rw [if_neg (by simp),IU x9 i3 j ys (i + 1) x h1 (by omega)]
   simp
theorem tmod10 {r : Int} {k : Nat} (h0 : 0 ≤ r) (h : r ≤ 4) : Int.tmod (r + 10 * (k : Int)) 10 = r:=by
 rw [Int.tmod_eq_emod_of_nonneg (by omega)]; omega
theorem FQ {r : Int} (h0 : 0 ≤ r) (h : r ≤ 4) : Int.tmod r 10 = r:=by
 rw [Int.tmod_eq_emod_of_nonneg h0]; omega
theorem cnd_f (o : List An) {x y : An} (hx : 0 ≤ x.Rank ∧ x.Rank ≤ 4) (hy : 0 ≤ y.Rank ∧ y.Rank ≤ 4) : cnd x (fR o y) = (decide (0 < y.Rank) && decide (y.Rank < x.Rank)) ∧ cnd x y = (decide (0 < y.Rank) && decide (y.Rank < x.Rank)):=by
 have e1:=FQ hx.1 hx.2
 have e2:=FQ hy.1 hy.2
 have key : ((decide (0 < y.Rank) && decide (y.Rank < x.Rank)) && decide (0 < x.Rank)) = (decide (0 < y.Rank) && decide (y.Rank < x.Rank)):=by
  rw [Bool.eq_iff_iff]; simp only [Bool.and_eq_true,decide_eq_true_eq]; omega
 refine ⟨?_,by unfold cnd; rw [e1,e2,key]⟩
 unfold fR
 by_cases h : 0 < y.Rank
 ·rw [if_pos h]
  unfold cnd
  simp only
  rw [tmod10 hy.1 hy.2,e1,decide_eq_true h,decide_eq_true (show 0 < y.Rank + 10 * (rk o y.Rank : Int) by omega)]
  rw [decide_eq_true h] at key
  exact key
 ·rw [if_neg h]
  unfold cnd; rw [e1,e2,key]
theorem sc_l3 (o : List An) (ho : o.length ≤ 5) (hr : ∀ x ∈ o,0 ≤ x.Rank ∧ x.Rank ≤ 4) (j : List An → Option (List An × Int)) : ∀ (b a ys : List An),o = a ++ b → ys.length = b.length → Fm j ys a.length (a.map (fR o) ++ b) = j (o.map (fR o))
 | [],a,ys,h,hy=>by
  have : ys = []:=List.eq_nil_of_length_eq_zero (by simpa using hy)
  subst this
  rw [Fm,h]; simp
 | x :: b,a,ys,h,hy=>by
  cases ys with
  | nil=>simp at hy
  | cons z ys =>
   have hxo : x ∈ o:=by rw [h]; simp
   have hal : a.length + b.length + 1 = o.length:=by rw [h]; simp; omega
   have hx:=hr x hxo
   rw [Fm]
   simp only [He]
   have hn : nth (a.map (fR o) ++ x :: b) (a.length : Int) = x:=Pq _ _ _ (by simp)
   have hin : inB (a.length : Int) (a.map (fR o) ++ x :: b).length = true:=Jh.2 (by simp; omega)
   rw [Ft hin,IU _ _ _ _ _ _ (by omega) (by simp; omega),hn]
   have hcount : (a.map (fR o) ++ x :: b).countP (cnd x) = o.countP fun z=>decide (0 < z.Rank) && decide (z.Rank < x.Rank):=by
    rw [List.countP_append,List.countP_map]
    have e1 : a.countP (cnd x ∘ fR o) = a.countP fun z=>decide (0 < z.Rank) && decide (z.Rank < x.Rank) :=
     List.countP_congr fun z hz=>by simp only [Function.comp]; rw [(cnd_f o hx (hr z (by rw [h]; simp [hz]))).1]
    have e2 : (x :: b).countP (cnd x) = (x :: b).countP fun z=>decide (0 < z.Rank) && decide (z.Rank < x.Rank) :=
     List.countP_congr fun z hz=>by rw [(cnd_f o hx (hr z (by rw [h]; exact List.mem_append_right _ hz))).2]
    rw [e1,e2,← List.countP_append,← h]
   rw [hcount]
   have hrk : (1 : Int) + ((o.countP fun z=>decide (0 < z.Rank) && decide (z.Rank < x.Rank) : Nat) : Int) = (rk o x.Rank : Int):=by unfold rk; push_cast; rfl
   have hle:=IT o x.Rank
   have ih:=sc_l3 o ho hr j b (a ++ [x]) ys (by rw [h]; simp) (by simpa using hy)
   rw [List.length_append,List.length_singleton] at ih
   rw [hrk]
   by_cases hp : 0 < x.Rank
   ·rw [if_pos (decide_eq_true hp),Ft hin,Mw (n:=10 * (rk o x.Rank : Int)) (by omega) (by omega),Mw (by omega) (by omega)]
    have hf : fR o x = An.mk x.Race x.Who x.Club (x.Rank + 10 * (rk o x.Rank : Int)) x.Relay:=by unfold fR; rw [if_pos hp]
    have hset : (a.map (fR o) ++ x :: b).set ((a.length : Int).toNat) (An.mk x.Race x.Who x.Club (x.Rank + 10 * (rk o x.Rank : Int)) x.Relay) = (a ++ [x]).map (fR o) ++ b:=by
     rw [← hf,show (a.length : Int).toNat = (a.map (fR o)).length by simp,List.set_append_right _ _ (Nat.le_refl _)]
     simp
    rw [hset]; exact ih
   ·rw [if_neg (by simpa using hp)]
    have hf : fR o x = x:=by unfold fR; rw [if_neg hp]
    have : a.map (fR o) ++ x :: b = (a ++ [x]).map (fR o) ++ b:=by simp [hf]
    rw [this]; exact ih
def g5 (x : An) : An:=An.mk x.Race x.Who x.Club (W (Int.tdiv x.Rank 10)) x.Relay
theorem sc_l5 (j : List An → Option (List An × Int)) : ∀ (b a ys : List An),ys.length = b.length → (a ++ b).length ≤ 5 → Ez j ys a.length (a.map g5 ++ b) = j ((a ++ b).map g5)
 | [],a,ys,hy,_=>by
  have : ys = []:=List.eq_nil_of_length_eq_zero (by simpa using hy)
  subst this
  rw [Ez]; simp
 | x :: b,a,ys,hy,hl=>by
  cases ys with
  | nil=>simp at hy
  | cons z ys =>
   rw [Ez]
   have hn : nth (a.map g5 ++ x :: b) (a.length : Int) = x:=Pq _ _ _ (by simp)
   have hin : inB (a.length : Int) (a.map g5 ++ x :: b).length = true:=Jh.2 (by simp; omega)
   rw [Ft hin,Ft hin,hn]
   have hset : (a.map g5 ++ x :: b).set ((a.length : Int).toNat) (An.mk x.Race x.Who x.Club (W (Int.tdiv x.Rank 10)) x.Relay) = (a ++ [x]).map g5 ++ b:=by
    rw [show An.mk x.Race x.Who x.Club (W (Int.tdiv x.Rank 10)) x.Relay = g5 x from rfl,show (a.length : Int).toNat = (a.map g5).length by simp,List.set_append_right _ _ (Nat.le_refl _)]
    simp
   rw [hset]
   have ih:=sc_l5 j b (a ++ [x]) ys (by simpa using hy) (by simp at hl ⊢; omega)
   rw [List.length_append,List.length_singleton] at ih
   rw [ih]; simp
theorem g5_f (o : List An) (ho : o.length ≤ 5) {x : An} (hx : 0 ≤ x.Rank ∧ x.Rank ≤ 4) : g5 (fR o x) = hR o x:=by
 have hle:=IT o x.Rank
 unfold fR hR g5
 by_cases h : 0 < x.Rank
 ·rw [if_pos h,if_pos h]
  simp only
  have : Int.tdiv (x.Rank + 10 * (rk o x.Rank : Int)) 10 = (rk o x.Rank : Int):=by
   rw [Int.tdiv_eq_ediv_of_nonneg (by omega)]; omega
  rw [this,Mw (by omega) (by omega)]
 ·rw [if_neg h,if_neg h]
  have h0 : x.Rank = 0:=by omega
  rw [h0]; rfl
def gp (o : List An) : List An:=Lx Sg (o.map (hR o))
theorem hR_rr {race : ByteArray} {rel : Bool} {o : List An} (h : O0 race rel o) (x : An) : 0 ≤ (hR o x).Rank ∧ (hR o x).Rank ≤ 6:=by
 have hle:=IT o x.Rank
 have:=h.len
 unfold hR
 simp only
 split <;> omega
section
variable {L : List Int} (hL : Wp L)
include hL
theorem sc_l1 (j : List An → Int → Option (List An × Int)) : ∀ (ys : List ByteArray) (i : Nat) (x1 : List An) (a : Int),0 ≤ a → a + 16 * ys.length ≤ 1000000 → x1.length + 5 * ys.length ≤ 1000 →
  ∃ (os : List (Bool × List An)) (b : Int),Ep L j ys i x1 a = j (x1 ++ (os.map fun p=>gp p.2).flatten) b ∧ a ≤ b ∧ b ≤ a + 16 * ys.length ∧ os.length = ys.length ∧ ∀ (k : Nat) (y : ByteArray) (p : Bool × List An),ys[k]? = some y → os[k]? = some p → O0 y p.1 p.2
 | [],i,x1,a,_,_,_=>⟨[],a,by rw [Ep]; simp,by omega,by simp,rfl,fun k y p h=>by simp at h⟩
 | y :: ys,i,x1,a,h1,h2,h3=>by
  simp only [List.length_cons] at h2 h3
  rw [Ep]
  obtain ⟨f,b,e,g1,g2,_⟩:=BX hL h1 (by omega) 3 (by omega)
  rw [e]; simp only [Option.bind_some,He]
  obtain ⟨o,c,e2,q1,q2,q3⟩:=IS hL y (f,b) (fun (x3 : List An) (x4 : Int)=>Fm (fun x9=>Ez (fun x15=>Option.bind (Ea x15) (fun r5=>Chk (decide (x1.length + r5.length < 1073741824)) (Ep L j ys (i + 1) (x1 ++ r5) x4))) x9 0 x9) x3 0 x3) [Kx,My,Pv,Pw,Px] 0 [] b (by decide +kernel) (fun y hy=>hy) (fun _ h=>by cases h) (by simp) ⟨by simp,(fun _ h=>by cases h),List.Pairwise.nil⟩ (by omega) (by simp; omega)
  simp only [List.length_cons,List.length_nil] at q3
  rw [e2]
  have hrr : ∀ x ∈ o,0 ≤ x.Rank ∧ x.Rank ≤ 4:=fun x hx=>(q1.row x hx).2.2.2.2
  have h3':=sc_l3 o q1.len hrr (fun x9=>Ez (fun x15=>Option.bind (Ea x15) (fun r5=>Chk (decide (x1.length + r5.length < 1073741824)) (Ep L j ys (i + 1) (x1 ++ r5) c))) x9 0 x9) o [] o rfl rfl
  simp only [List.length_nil,List.map_nil,List.nil_append] at h3'
  rw [h3']
  have h5':=sc_l5 (fun x15=>Option.bind (Ea x15) (fun r5=>Chk (decide (x1.length + r5.length < 1073741824)) (Ep L j ys (i + 1) (x1 ++ r5) c))) (o.map (fR o)) [] (o.map (fR o)) rfl (by simpa using q1.len)
  simp only [List.length_nil,List.map_nil,List.nil_append] at h5'
  rw [h5']
  have hm : (o.map (fR o)).map g5 = o.map (hR o):=by
   rw [List.map_map]
   exact List.map_congr_left fun x hx=>g5_f o q1.len (hrr x hx)
  have hol:=q1.len
  rw [hm,IR _ (by simp; omega) (fun x hx=>by
   obtain ⟨z,_,rfl⟩:=List.mem_map.1 hx
   have:=hR_rr q1 z
   exact ⟨this.1,by omega⟩)]
  simp only [Option.bind_some]
  have hgl : (Lx Sg (o.map (hR o))).length = o.length:=by rw [Vp,List.length_map]
  rw [Ft (by simp; omega)]
  obtain ⟨os,d,e3,r1,r2,r3,r4⟩:=sc_l1 j ys (i + 1) (x1 ++ Lx Sg (o.map (hR o))) c (by omega) (by omega) (by rw [List.length_append]; omega)
  refine ⟨(f,o) :: os,d,by rw [e3]; simp [gp],by omega,by simp; omega,by simp [r3],fun k z p hk hp=>?_⟩
  cases k with
  | zero=>simp at hk hp; subst hk hp; exact q1
  | succ k=>exact r4 k z p (by simpa using hk) (by simpa using hp)
end
end Go.Proofs.YtfdcgchgkojfiaaGreatDoor
