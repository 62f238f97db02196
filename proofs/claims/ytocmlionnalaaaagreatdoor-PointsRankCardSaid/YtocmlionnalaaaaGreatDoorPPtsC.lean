/- Ranks that the stream gives pass the program's check. No program stands here but its twins. -/
import Derived.Test.YtocmlionnalaaaaGreatDoorTw
namespace Go.Proofs.YtocmlionnalaaaaGreatDoor
open Go

theorem Hl {R : Type} {c : Bool} {k : Option R} (h : c = true) : Chk c k = k:=by simp [Chk,h]
theorem Ia {κ R : Type} (K : κ) (f : κ → R) : Ex K f = f K:=rfl
theorem Vt {x n : Int} (hn : 0 < n) : -n < Int.tmod x n ∧ Int.tmod x n < n:=by
 have h1:=Int.tmod_lt_of_pos x hn
 have h2:=Int.tmod_lt_of_pos (-x) hn
 rw [Int.neg_tmod] at h2
 omega
theorem Wy (x n : Int) (hn : n ≤ 4611686018427387904) : ∃ v,Ki x n = some v ∧ 0 ≤ v ∧ (v < n ∨ (n < 1 ∧ v = 0)):=by
 unfold Ki
 by_cases h : n < 1
 ·exact ⟨0,by simp [h],Int.le_refl _,.inr ⟨h,rfl⟩⟩
 ·have h1:=Vt (x:=x) (n:=n) (by omega)
  have h0 : ¬ n = 0:=by omega
  simp only [decide_eq_true_eq,h,if_false,Ex]
  rw [Hl (by simp [h0])]
  by_cases h2 : Int.tmod x n < 0
  ·rw [if_pos h2,Jw (by omega) (by omega)]
   exact ⟨_,rfl,by omega,.inl (by omega)⟩
  ·rw [if_neg h2]
   exact ⟨_,rfl,by omega,.inl (by omega)⟩
theorem Sy (L : List Int) (a n : Int) (ha : 0 ≤ a) (ha' : a ≤ 4611686018427387904) (hL : (L.length : Int) ≤ 9223372036854775807) (hn : n ≤ 4611686018427387904) :
  ∃ v,Jo L a n = some (v,a + 1) ∧ 0 ≤ v ∧ (v < n ∨ (n < 1 ∧ v = 0)):=by
 have w1 : W (a + 1) = a + 1:=Jw (by omega) (by omega)
 have w2 : W (a + 1 - 1) = a:=by rw [show a + 1 - 1 = a by omega]; exact Jw (by omega) (by omega)
 unfold Jo
 rw [w1,w2]
 by_cases h : (L.length : Int) = 0
 ·obtain ⟨v,h1,h2,h3⟩:=Wy (W ((a + 1) * 7919)) n hn
  exact ⟨v,by simp [h,h1],h2,h3⟩
 ·have h0 : 0 < (L.length : Int):=by omega
  have hm:=Vt (x:=a) h0
  have hm0 : 0 ≤ Int.tmod a (L.length : Int):=Int.tmod_nonneg _ ha
  have hc : inB (Int.tmod a (L.length : Int)) L.length = true:=Ge.2 ⟨hm0,hm.2⟩
  obtain ⟨v1,e1,_,_⟩:=Wy (nth L (Int.tmod a (L.length : Int))) 1073741824 (by omega)
  simp only [decide_eq_true_eq,h,if_false]
  rw [Hl (by simp),Hl (by simp),Hl hc,e1]
  simp only [Option.bind_some]
  obtain ⟨v2,e2,g1,g2⟩:=Wy (W (v1 + W (W (Int.tdiv a (L.length : Int)) * W (7919 + Int.tmod a (L.length : Int))))) n hn
  exact ⟨v2,by rw [e2]; rfl,g1,g2⟩
theorem BV (L : List Int) (a : Int) (l : List Int) (ha : 0 ≤ a) (ha' : a ≤ 4611686018427387904) (hL : (L.length : Int) ≤ 9223372036854775807) (hl : 0 < l.length) (hl' : l.length ≤ 1000) :
  ∃ v,Ku L a l = some (v,a + 1) ∧ v ∈ l:=by
 obtain ⟨v,h1,h2,h3⟩:=Sy L a (l.length : Int) ha ha' hL (by omega)
 have h4 : v < (l.length : Int):=by omega
 have hc : inB v l.length = true:=Ge.2 ⟨h2,h4⟩
 unfold Ku
 rw [h1]
 simp only [Option.bind_some]
 rw [Hl hc]
 exact ⟨nth l v,rfl,List.mem_of_getElem? (Cn hc).1⟩
theorem BW (L : List Int) (a n : Int) (ha : 0 ≤ a) (ha' : a ≤ 4611686018427387904) (hL : (L.length : Int) ≤ 9223372036854775807) (hn : n ≤ 4611686018427387904) : ∃ b,Jq L a n = some (b,a + 1):=by
 obtain ⟨v,h1,_,_⟩:=Sy L a n ha ha' hL hn
 unfold Jq
 rw [h1]
 exact ⟨_,rfl⟩
end Go.Proofs.YtocmlionnalaaaaGreatDoor
namespace Go.Proofs.YtocmlionnalaaaaGreatDoor
open Go
def fr (v : Nat) : Ha:=⟨((v / Nat.gcd v 60 : Nat) : Int),((60 / Nat.gcd v 60 : Nat) : Int)⟩
end Go.Proofs.YtocmlionnalaaaaGreatDoor
namespace Go.Proofs.YtocmlionnalaaaaGreatDoor
open Go
theorem Ma {κ R : Type} (K : κ) (f : κ → R) : Ex K f = f K:=rfl
theorem Ky {R : Type} {c : Bool} {k : Option R} (h : c = true) : Chk c k = k:=by subst h; rfl
section
variable {α R : Type}
theorem EH (C : α → (Bool → R) → R) (p : α → Bool) (j : R) (o : Int → R) (F : List α → Nat → R) (h0 : ∀ i,F [] i = j) (h1 : ∀ y ys i,F (y :: ys) i = C y (fun b=>if b then o (i : Int) else F ys (i + 1))) :
  ∀ (l : List α) (i : Nat),(∀ x ∈ l,∀ k,C x k = k (p x)) → (∃ pre y post,l = pre ++ y :: post ∧ (∀ x ∈ pre,p x = false) ∧ p y = true ∧ F l i = o ((i + pre.length : Nat) : Int)) ∨ ((∀ x ∈ l,p x = false) ∧ F l i = j)
 | [],i,_=>.inr ⟨fun _ h=>(List.not_mem_nil h).elim,h0 i⟩
 | y :: ys,i,hC=>by
  rw [h1,hC y List.mem_cons_self]
  cases hy : p y with
  | true=>exact .inl ⟨[],y,ys,rfl,fun _ h=>(List.not_mem_nil h).elim,hy,by simp⟩
  | false =>
   simp only [Bool.false_eq_true,if_false]
   rcases EH C p j o F h0 h1 ys (i + 1) (fun x hx=>hC x (List.mem_cons_of_mem _ hx)) with ⟨pre,z,post,e,g1,g2,g3⟩ | ⟨g1,g2⟩
   ·refine .inl ⟨y :: pre,z,post,by rw [e]; rfl,fun x hx=>?_,g2,by rw [g3]; congr 2; simp; omega⟩
    rcases List.mem_cons.1 hx with rfl | hx
    ·exact hy
    ·exact g1 x hx
   ·refine .inr ⟨fun x hx=>?_,g2⟩
    rcases List.mem_cons.1 hx with rfl | hx
    ·exact hy
    ·exact g1 x hx
variable [Inhabited α]
theorem Qa (a : List α) (y : α) (b : List α) {e : Int} (he : e = (a.length : Int)) : nth (a ++ y :: b) e = y:=by
 subst he
 simp [nth]
omit [Inhabited α] in
theorem cut_clr (a b : List α) (z : α) : Rz (a.length : Int) ((a ++ b).length : Int) (a ++ b).length = true ∧ Rz 0 (a.length : Int) (clr (a ++ b) (a.length : Int) ((a ++ b).length : Int) z).length = true ∧ cut (clr (a ++ b) (a.length : Int) ((a ++ b).length : Int) z) 0 (a.length : Int) = a:=by
 refine ⟨Oa.2 (by simp; omega),Oa.2 ⟨by omega,by omega,by simp [clr]; omega⟩,?_⟩
 simp [cut,clr]
def Mh (lt : α → α → Bool) (x : α) : List α → List α
 | []=>[x]
 | y :: r=>if lt x y then y :: Mh lt x r else x :: y :: r
def Mn (lt : α → α → Bool) (l rp : List α) : List α:=l.foldl (fun rp x=>Mh lt x rp) rp
def Km (lt : α → α → Bool) (l : List α) : List α:=(Mn lt l []).reverse
omit [Inhabited α] in
theorem Sl (lt : α → α → Bool) (x : α) : ∀ l : List α,(Mh lt x l).length = l.length + 1
 | []=>rfl
 | y :: r=>by
  unfold Mh
  split
  ·simp [Sl lt x r]
  ·rfl
omit [Inhabited α] in
theorem Qq (lt : α → α → Bool) (x z : α) : ∀ l : List α,z ∈ Mh lt x l ↔ z = x ∨ z ∈ l
 | []=>by simp [Mh]
 | y :: r=>by
  unfold Mh
  split
  ·simp only [List.mem_cons,Qq lt x z r]
   constructor
   ·rintro (h | h | h)
    ·exact .inr (.inl h)
    ·exact .inl h
    ·exact .inr (.inr h)
   ·rintro (h | h | h)
    ·exact .inr (.inl h)
    ·exact .inl h
    ·exact .inr (.inr h)
  ·simp
theorem BX (C : α → α → (Bool → Option R) → Option R) (lt : α → α → Bool) (j : List α → Option R) (F : Nat → List α → Int → Option R)
  (h : ∀ m x i,F (m + 1) x i = if decide (0 < i) then Chk (inB i x.length) (Chk (inB (W (i - 1)) x.length) (C (nth x i) (nth x (W (i - 1))) (fun b=>if b then
   Chk (inB (W (i - 1)) x.length) (Chk (inB i x.length) (Chk (inB i x.length) (Chk (inB (W (i - 1)) (x.set i.toNat (nth x (W (i - 1)))).length) (F m ((x.set i.toNat (nth x (W (i - 1)))).set (W (i - 1)).toNat (nth x i)) (W (i - 1)))))) else j x))) else j x) :
  ∀ (rp : List α) (x : α) (post : List α) (m : Nat),rp.length < m → rp.length + post.length < 1073741824 → (∀ y ∈ rp,∀ k,C x y k = k (lt x y)) →
   F m (rp.reverse ++ x :: post) (rp.length : Int) = j ((Mh lt x rp).reverse ++ post)
 | [],x,post,m,h1,h2,_=>by
  obtain ⟨m,rfl⟩ : ∃ q,m = q + 1:=⟨m - 1,by omega⟩
  rw [h,if_neg (by simp)]
  rfl
 | y :: r,x,post,m,h1,h2,hC=>by
  obtain ⟨m,rfl⟩ : ∃ q,m = q + 1:=⟨m - 1,by omega⟩
  simp only [List.length_cons] at h1 h2
  have e0 : (y :: r).reverse ++ x :: post = r.reverse ++ y :: x :: post:=by simp
  have e0' : r.reverse ++ y :: x :: post = (r.reverse ++ [y]) ++ x :: post:=by simp
  have wi : W ((((y :: r).length : Nat) : Int) - 1) = (r.length : Int):=by rw [Jw (by simp only [List.length_cons]; omega) (by simp only [List.length_cons]; omega)]; simp
  have n1 : nth (r.reverse ++ y :: x :: post) (((y :: r).length : Nat) : Int) = x:=by rw [e0']; exact Qa _ _ _ (by simp)
  have n2 : nth (r.reverse ++ y :: x :: post) (r.length : Int) = y:=Qa _ _ _ (by simp)
  have b1 : inB (((y :: r).length : Nat) : Int) (r.reverse ++ y :: x :: post).length = true:=Ge.2 ⟨by omega,by simp; omega⟩
  have b2 : inB (r.length : Int) (r.reverse ++ y :: x :: post).length = true:=Ge.2 (by simp; omega)
  rw [h,e0,if_pos (decide_eq_true (by simp only [List.length_cons]; omega)),wi,Ky b1,Ky b2,n1,n2,hC y List.mem_cons_self]
  unfold Mh
  cases hb : lt x y with
  | true =>
   simp only [if_true]
   rw [Ky b2,Ky b1,Ky b1,Ky (by rw [List.length_set]; exact b2)]
   have e1 : ((r.reverse ++ y :: x :: post).set (((y :: r).length : Nat) : Int).toNat y).set (r.length : Int).toNat x = r.reverse ++ x :: (y :: post):=by
    have e2 : (r.reverse ++ y :: x :: post).set (((y :: r).length : Nat) : Int).toNat y = r.reverse ++ y :: y :: post:=by
     rw [e0',show (((y :: r).length : Nat) : Int).toNat = (r.reverse ++ [y]).length by simp,List.set_append_right _ _ (Nat.le_refl _)]
     simp
    rw [e2,show (r.length : Int).toNat = r.reverse.length by simp,List.set_append_right _ _ (Nat.le_refl _)]
    simp
   rw [e1,BX C lt j F h r x (y :: post) m (by omega) (by simp; omega) (fun z hz=>hC z (List.mem_cons_of_mem _ hz))]
   simp
  | false=>simp
omit [Inhabited α] in
theorem Wj (lt : α → α → Bool) (j : List α → Option R) (G : (List α → Option R) → List α → Int → Option R) (F : Nat → List α → Int → Option R) (n : Int)
  (h : ∀ m x i,F (m + 1) x i = if decide (i < n) then G (fun x=>F m x (W (i + 1))) x i else j x)
  (hG : ∀ k (rp : List α) (x : α) (post : List α),((rp ++ x :: post).length : Int) = n → (∀ y,y ∈ rp ∨ y = x ∨ y ∈ post → y ∈ (rp ++ x :: post)) → G k (rp.reverse ++ x :: post) (rp.length : Int) = k ((Mh lt x rp).reverse ++ post)) :
  ∀ (rest rp : List α) (m : Nat),rest.length < m → ((rp.length + rest.length : Nat) : Int) = n → rp.length + rest.length < 1073741824 →
   F m (rp.reverse ++ rest) (rp.length : Int) = j (Mn lt rest rp).reverse
 | [],rp,m,h1,h2,_=>by
  obtain ⟨m,rfl⟩ : ∃ q,m = q + 1:=⟨m - 1,by omega⟩
  rw [h,if_neg (by simp at h2; simp; omega)]
  simp [Mn]
 | x :: r,rp,m,h1,h2,h3=>by
  obtain ⟨m,rfl⟩ : ∃ q,m = q + 1:=⟨m - 1,by omega⟩
  simp only [List.length_cons] at h1 h2 h3
  rw [h,if_pos (by simp; omega),hG _ rp x r (by simp; omega) (fun y hy=>by simpa using hy),show W ((rp.length : Int) + 1) = ((Mh lt x rp).length : Int) by rw [Jw (by omega) (by omega),Sl]; rfl,
   Wj lt j G F n h hG r (Mh lt x rp) m (by omega) (by rw [Sl]; omega) (by rw [Sl]; omega)]
  rfl
omit [Inhabited α] in
theorem Yc (lt : α → α → Bool) (z : α) : ∀ l rp : List α,z ∈ Mn lt l rp ↔ z ∈ l ∨ z ∈ rp
 | [],rp=>by simp [Mn]
 | x :: l,rp=>by
  show z ∈ Mn lt l (Mh lt x rp) ↔ _
  rw [Yc lt z l,Qq]
  simp only [List.mem_cons]
  constructor
  ·rintro (h | h | h)
   ·exact .inl (.inr h)
   ·exact .inl (.inl h)
   ·exact .inr h
  ·rintro ((h | h) | h)
   ·exact .inr (.inl h)
   ·exact .inl h
   ·exact .inr (.inr h)
omit [Inhabited α] in
end
end Go.Proofs.YtocmlionnalaaaaGreatDoor
namespace Go.Proofs.YtocmlionnalaaaaGreatDoor
open Go
section
variable {α β R : Type}
variable [DecidableEq α] [Inhabited α]
end
section
variable {α R : Type} [Inhabited α]
end
end Go.Proofs.YtocmlionnalaaaaGreatDoor
namespace Go.Proofs.YtocmlionnalaaaaGreatDoor
open Go
def One (g : List An) : Prop:=g ≠ [] ∧ ∀ x ∈ g,∀ y ∈ g,x.Race = y.Race
theorem Zw (pl pre g post : List An) (hp : pl = pre ++ (g ++ post)) (hg : One g) (hn : ∀ x ∈ g,∀ y,post.head? = some y → x.Race ≠ y.Race) (hl : pl.length ≤ 1000) (j : Int → Option (List (List An))) :
  ∀ (d m k : Nat),g.length = k + d → 1 ≤ k → d < m → Ip pl (pre.length : Int) j m ((pre.length + k : Nat) : Int) = j ((pre.length + g.length : Nat) : Int)
 | d,0,_,_,_,h=>by omega
 | d,m + 1,k,h1,h2,h3=>by
  have hlen : pl.length = pre.length + (g.length + post.length):=by rw [hp]; simp
  rw [Ip]
  simp only [Ia]
  have hn0 : ∃ g0 gs,g = g0 :: gs:=by
   cases g with
   | nil=>exact (hg.1 rfl).elim
   | cons a b=>exact ⟨a,b,rfl⟩
  obtain ⟨g0,gs,e0⟩:=hn0
  have h0 : nth pl (pre.length : Int) = g0:=by rw [hp,e0]; exact Qa pre g0 (gs ++ post) rfl
  have hb0 : inB (pre.length : Int) pl.length = true:=Ge.2 (by rw [hlen,e0]; simp; omega)
  cases d with
  | zero =>
   have hk : k = g.length:=by omega
   subst hk
   cases post with
   | nil =>
    simp only [List.length_nil,Nat.add_zero] at hlen
    rw [if_neg (by rw [hlen]; simp)]
    simp only [hlen,Int.lt_irrefl,decide_false,Bool.false_and,Bool.false_eq_true,if_false]
   | cons y post =>
    have hy : nth pl ((pre.length + g.length : Nat) : Int) = y:=by
     have : pl = (pre ++ g) ++ y :: post:=by rw [hp]; simp
     rw [this]; exact Qa (pre ++ g) y post (by simp)
    have hb : inB ((pre.length + g.length : Nat) : Int) pl.length = true:=Ge.2 (by rw [hlen]; simp; omega)
    rw [if_pos (by rw [hlen]; simp; omega),Hl hb,Hl hb0,hy,h0]
    have hne : decide (y.Race = g0.Race) = false:=decide_eq_false fun e=>hn g0 (by rw [e0]; simp) y rfl e.symm
    rw [hne,Bool.and_false,if_neg (by simp)]
  | succ d =>
   have hkg : k < g.length:=by omega
   have hk : nth pl ((pre.length + k : Nat) : Int) = g[k]:=by
    unfold nth
    rw [Int.toNat_natCast,List.getD,hp,List.getElem?_append_right (by omega),Nat.add_sub_cancel_left,List.getElem?_append_left hkg,List.getElem?_eq_getElem hkg]; rfl
   have hb : inB ((pre.length + k : Nat) : Int) pl.length = true:=Ge.2 (by rw [hlen]; omega)
   have hlt : ((pre.length + k : Nat) : Int) < (pl.length : Int):=by rw [hlen]; omega
   rw [if_pos (decide_eq_true hlt),Hl hb,Hl hb0,hk,h0]
   have heq : g[k].Race = g0.Race:=hg.2 _ (List.getElem_mem hkg) _ (by rw [e0]; simp)
   rw [if_pos (by simp only [heq,decide_true,Bool.and_true]; exact decide_eq_true hlt),Jw (by omega) (by omega)]
   have:=Zw pl pre g post hp hg hn hl j d m (k + 1) (by omega) (by omega) (by omega)
   rw [show ((pre.length + k : Nat) : Int) + 1 = ((pre.length + (k + 1) : Nat) : Int) by omega]
   exact this
theorem Zx (pl : List An) (hl : pl.length ≤ 1000) (j : List (List An) → Option (List (List An))) : ∀ (Gs : List (List An)) (pre : List An) (x1 : List (List An)) (m : Nat),pl = pre ++ Gs.flatten → Gs.length < m → x1.length + Gs.length ≤ 10000 →
  (∀ g ∈ Gs,One g) → Gs.Pairwise (fun g g'=>∀ x ∈ g,∀ y ∈ g',x.Race ≠ y.Race) → Hq pl j m x1 (pre.length : Int) = j (x1 ++ Gs)
 | Gs,pre,x1,0,_,h,_,_,_=>by omega
 | [],pre,x1,m + 1,h1,_,_,_,_=>by
  have : pl.length = pre.length:=by rw [h1]; simp
  rw [Hq,if_neg (by rw [this]; simp),List.append_nil]
 | g :: Gs,pre,x1,m + 1,h1,h2,h3,h4,h5=>by
  have hg:=h4 g List.mem_cons_self
  have hpos : 0 < g.length:=List.length_pos_iff.2 hg.1
  have hp : pl = pre ++ (g ++ Gs.flatten):=by rw [h1]; simp
  have hlen : pl.length = pre.length + (g.length + Gs.flatten.length):=by rw [hp]; simp
  obtain ⟨p1,p2⟩:=List.pairwise_cons.1 h5
  rw [Hq,if_pos (by rw [hlen]; simp; omega)]
  simp only [Ia]
  have hhead : ∀ x ∈ g,∀ y,Gs.flatten.head? = some y → x.Race ≠ y.Race:=by
   intro x hx y hy
   cases Gs with
   | nil=>simp at hy
   | cons g' Gs =>
    have hg':=h4 g' (by simp)
    cases g' with
    | nil=>exact (hg'.1 rfl).elim
    | cons a b=>simp at hy; subst hy; exact p1 (a :: b) List.mem_cons_self x hx a List.mem_cons_self
  have hk:=Zw pl pre g Gs.flatten hp hg hhead hl (fun x3=>Chk (Rz (pre.length : Int) x3 pl.length) (Chk (Pj x1.length) (Hq pl j m (x1 ++ [cut pl (pre.length : Int) x3]) x3))) (g.length - 1) (((pl.length : Int) - (W ((pre.length : Int) + 1))).toNat + 2) 1 (by omega) (by omega) (by rw [Jw (by omega) (by omega)]; omega)
  rw [Jw (by omega) (by omega)] at hk ⊢
  rw [show (pre.length : Int) + 1 = ((pre.length + 1 : Nat) : Int) by omega] at hk ⊢
  rw [hk,Hl (Oa.2 (by omega)),Hl (by unfold Pj; simp; simp at h3; omega)]
  have hcut : cut pl (pre.length : Int) ((pre.length + g.length : Nat) : Int) = g:=by
   unfold cut
   rw [hp,Int.toNat_natCast,Int.toNat_natCast,← List.append_assoc,List.take_left' (by simp),List.drop_left]
  rw [hcut]
  have ih:=Zx pl hl j Gs (pre ++ g) (x1 ++ [g]) m (by rw [hp]; simp) (by simp at h2; omega) (by simp at h3 ⊢; omega) (fun g' h'=>h4 g' (List.mem_cons_of_mem _ h')) p2
  rw [List.length_append] at ih
  rw [ih]; simp
theorem BY : ∀ (Gs : List (List An)),(∀ g ∈ Gs,One g) → Gs.length ≤ Gs.flatten.length
 | [],_=>by simp
 | g :: Gs,h=>by
  have:=BY Gs fun g' h'=>h g' (List.mem_cons_of_mem _ h')
  have:=List.length_pos_iff.2 (h g List.mem_cons_self).1
  rw [List.flatten_cons,List.length_append,List.length_cons]; omega
theorem EI (Gs : List (List An)) (h1 : ∀ g ∈ Gs,One g) (h2 : Gs.Pairwise (fun g g'=>∀ x ∈ g,∀ y ∈ g',x.Race ≠ y.Race)) (hl : Gs.flatten.length ≤ 1000) : Lt Gs.flatten = some Gs:=by
 unfold Lt
 simp only [Ia]
 have hf:=BY Gs h1
 have:=Zx Gs.flatten hl (fun x1=>some x1) Gs [] [] (((Gs.flatten.length : Int) - 0).toNat + 2) rfl (by omega) (by simp; omega) h1 h2
 simpa using this
end Go.Proofs.YtocmlionnalaaaaGreatDoor
namespace Go.Proofs.YtocmlionnalaaaaGreatDoor
open Go
end Go.Proofs.YtocmlionnalaaaaGreatDoor
namespace Go.Proofs.YtocmlionnalaaaaGreatDoor
open Go
section
variable {α : Type}
theorem Yd {lt : α → α → Bool} (ht : ∀ x y z,lt x y = true → lt y z = true → lt x z = true) (x : α) : ∀ rp : List α,rp.Pairwise (fun a b=>lt b a = true) → (∀ y ∈ rp,lt x y = false → lt y x = true) → (Mh lt x rp).Pairwise fun a b=>lt b a = true
 | [],_,_=>by simp [Mh]
 | y :: r,h,hx=>by
  rw [List.pairwise_cons] at h
  unfold Mh
  cases hxy : lt x y with
  | true =>
   rw [if_pos rfl]
   refine List.pairwise_cons.2 ⟨fun z hz=>?_,Yd ht x r h.2 fun z hz=>hx z (List.mem_cons_of_mem _ hz)⟩
   rcases (Qq lt x z r).1 hz with rfl | hz
   ·exact hxy
   ·exact h.1 z hz
  | false =>
   rw [if_neg (by simp)]
   have h1:=hx y (by simp) hxy
   refine List.pairwise_cons.2 ⟨fun z hz=>?_,List.pairwise_cons.2 h⟩
   rcases List.mem_cons.1 hz with rfl | hz
   ·exact h1
   ·exact ht z y x (h.1 z hz) h1
theorem Wz {lt : α → α → Bool} (ht : ∀ x y z,lt x y = true → lt y z = true → lt x z = true) : ∀ l rp : List α,rp.Pairwise (fun a b=>lt b a = true) → (∀ x ∈ l,∀ y ∈ rp,lt x y = false → lt y x = true) → l.Pairwise (fun a b=>lt b a = false → lt a b = true) →
  (Mn lt l rp).Pairwise fun a b=>lt b a = true
 | [],rp,h,_,_=>h
 | x :: l,rp,h,h1,h2=>by
  rw [List.pairwise_cons] at h2
  show (Mn lt l (Mh lt x rp)).Pairwise _
  refine Wz ht l _ (Yd ht x rp h (h1 x (by simp))) (fun z hz y hy=>?_) h2.2
  rcases (Qq lt x y rp).1 hy with rfl | hy
  ·exact h2.1 z hz
  ·exact h1 z (List.mem_cons_of_mem _ hz) y hy
theorem Vh {lt : α → α → Bool} (ht : ∀ x y z,lt x y = true → lt y z = true → lt x z = true) (l : List α) (h : l.Pairwise fun a b=>lt b a = false → lt a b = true) : (Km lt l).Pairwise fun a b=>lt a b = true:=by
 unfold Km
 rw [List.pairwise_reverse]
 exact Wz ht l [] List.Pairwise.nil (fun _ _ _ h=>by cases h) h
theorem Ye (lt : α → α → Bool) (l : List α) (z : α) : z ∈ Km lt l ↔ z ∈ l:=by
 unfold Km
 rw [List.mem_reverse,Yc]
 simp
theorem BZ {lt : α → α → Bool} (hi : ∀ x,lt x x = false) (ht : ∀ x y z,lt x y = true → lt y z = true → lt x z = true) : ∀ A B : List α,A.Pairwise (fun a b=>lt a b = true) → B.Pairwise (fun a b=>lt a b = true) → (∀ x,x ∈ A ↔ x ∈ B) → A = B
 | [],[],_,_,_=>rfl
 | [],b :: B,_,_,h=>by have:=(h b).2 (by simp); cases this
 | a :: A,[],_,_,h=>by have:=(h a).1 (by simp); cases this
 | a :: A,b :: B,hA,hB,h=>by
  rw [List.pairwise_cons] at hA hB
  have hab : a = b:=by
   rcases List.mem_cons.1 ((h a).1 (by simp)) with e | h1
   ·exact e
   ·rcases List.mem_cons.1 ((h b).2 (by simp)) with e | h2
    ·exact e.symm
    ·have:=ht a b a (hA.1 b h2) (hB.1 a h1)
     rw [hi] at this
     cases this
  subst hab
  have : A = B:=BZ hi ht A B hA.2 hB.2 fun x=>by
   have hx:=h x
   constructor
   ·intro hm
    rcases List.mem_cons.1 (hx.1 (List.mem_cons_of_mem _ hm)) with rfl | h3
    ·have:=hA.1 x hm; rw [hi] at this; cases this
    ·exact h3
   ·intro hm
    rcases List.mem_cons.1 (hx.2 (List.mem_cons_of_mem _ hm)) with rfl | h3
    ·have:=hB.1 x hm; rw [hi] at this; cases this
    ·exact h3
  rw [this]
theorem Xa (lt : α → α → Bool) : ∀ l rp : List α,(Mn lt l rp).length = l.length + rp.length
 | [],rp=>by simp [Mn]
 | x :: l,rp=>by
  show (Mn lt l (Mh lt x rp)).length = _
  rw [Xa lt l,Sl]
  simp only [List.length_cons]
  omega
theorem Tq (lt : α → α → Bool) (l : List α) : (Km lt l).length = l.length:=by
 unfold Km
 rw [List.length_reverse,Xa]
 simp
theorem EJ {lt : α → α → Bool} (hi : ∀ x,lt x x = false) (ht : ∀ x y z,lt x y = true → lt y z = true → lt x z = true) (A B : List α) (h : A.Pairwise fun a b=>lt b a = false → lt a b = true) (hB : B.Pairwise fun a b=>lt a b = true) (hm : ∀ x,x ∈ A ↔ x ∈ B) : Km lt A = B :=
 BZ hi ht _ _ (Vh ht A h) hB fun x=>by rw [Ye,hm]
theorem Tr {lt lt' : α → α → Bool} (x : α) : ∀ rp : List α,(∀ y ∈ rp,lt x y = lt' x y) → Mh lt x rp = Mh lt' x rp
 | [],_=>rfl
 | y :: r,h=>by
  unfold Mh
  rw [h y (by simp),Tr x r fun z hz=>h z (List.mem_cons_of_mem _ hz)]
theorem Vv {lt lt' : α → α → Bool} : ∀ l rp : List α,(∀ x ∈ l,∀ y,y ∈ l ∨ y ∈ rp → lt x y = lt' x y) → Mn lt l rp = Mn lt' l rp
 | [],_,_=>rfl
 | x :: l,rp,h=>by
  show Mn lt l (Mh lt x rp) = Mn lt' l (Mh lt' x rp)
  rw [Tr x rp fun y hy=>h x (by simp) y (.inr hy)]
  refine Vv l _ fun z hz y hy=>h z (List.mem_cons_of_mem _ hz) y ?_
  rcases hy with hy | hy
  ·exact .inl (List.mem_cons_of_mem _ hy)
  ·rcases (Qq lt' x y rp).1 hy with rfl | hy
   ·exact .inl (by simp)
   ·exact .inr hy
theorem Vw {lt lt' : α → α → Bool} (l : List α) (h : ∀ x ∈ l,∀ y ∈ l,lt x y = lt' x y) : Km lt l = Km lt' l:=by
 unfold Km
 rw [Vv l [] fun x hx y hy=>h x hx y (by rcases hy with hy | hy; exact hy; cases hy)]
theorem Yf (lt : α → α → Bool) (x : α) : ∀ rp : List α,(Mh lt x rp).Perm (x :: rp)
 | []=>List.Perm.refl _
 | y :: r=>by
  unfold Mh
  split
  ·exact ((Yf lt x r).cons y).trans (List.Perm.swap x y r)
  ·exact List.Perm.refl _
theorem Xb (lt : α → α → Bool) : ∀ l rp : List α,(Mn lt l rp).Perm (l ++ rp)
 | [],_=>List.Perm.refl _
 | x :: l,rp=>(Xb lt l (Mh lt x rp)).trans (((Yf lt x rp).append_left l).trans List.perm_middle)
theorem AX (lt : α → α → Bool) (l : List α) : (Km lt l).Perm l:=by
 have h:=Xb lt l []
 rw [List.append_nil] at h
 exact (List.reverse_perm _).trans h
def nbF [DecidableEq α] (p : α) : List α → List α
 | []=>[]
 | y :: r=>if y = p then nbF y r else y :: nbF y r
def nb [DecidableEq α] : List α → List α
 | []=>[]
 | x :: r=>x :: nbF x r
variable {R : Type} [Inhabited α]
theorem Wk {l : List α} {k : Nat} {y : α} (h : l[k]? = some y) : nth l (k : Int) = y:=by simp [nth,List.getD,h]
theorem Zb [DecidableEq α] (k n : Nat) (j : List α → Int → Option R) (F : Nat → List α → Int → Int → Option R)
  (h : ∀ m x2 x3 x4,F (m + 1) x2 x3 x4 = if decide (x4 < (((n : Int).toNat - (k : Int).toNat : Nat) : Int)) then
   Chk (inB x4 ((n : Int).toNat - (k : Int).toNat)) (Chk (inB (W (x4 - 1)) ((n : Int).toNat - (k : Int).toNat)) (if !decide ((nth (cut x2 (k : Int) (n : Int)) x4) = (nth (cut x2 (k : Int) (n : Int)) (W (x4 - 1)))) then
    Chk (inB x4 ((n : Int).toNat - (k : Int).toNat)) (Chk (inB x3 x2.length) (F m (x2.set x3.toNat (nth (cut x2 (k : Int) (n : Int)) x4)) (W (x3 + 1)) (W (x4 + 1))))
   else F m x2 x3 (W (x4 + 1)))) else j x2 x3) (hn : n < 1000000000) :
  ∀ (rest kept mid : List α) (p : α) (m r : Nat),rest.length < m → (kept ++ mid ++ p :: rest).length = n → 1 ≤ r → kept.length + mid.length = k + r - 1 →
   ∃ mid',F m (kept ++ mid ++ p :: rest) (kept.length : Int) (r : Int) = j (kept ++ nbF p rest ++ mid') ((kept ++ nbF p rest).length : Int) ∧ (kept ++ nbF p rest ++ mid').length = n
 | [],kept,mid,p,m,r,h1,h2,h3,h4=>by
  obtain ⟨m,rfl⟩ : ∃ q,m = q + 1:=⟨m - 1,by omega⟩
  simp only [List.length_append,List.length_cons,List.length_nil] at h2
  rw [h,if_neg (by simp only [Int.toNat_natCast,decide_eq_true_eq]; omega)]
  exact ⟨mid ++ [p],by simp [nbF],by simp [nbF]; omega⟩
 | y :: rest,kept,mid,p,m,r,h1,h2,h3,h4=>by
  obtain ⟨m,rfl⟩ : ∃ q,m = q + 1:=⟨m - 1,by omega⟩
  have h2':=h2
  simp only [List.length_append,List.length_cons] at h1 h2'
  have hk : k ≤ n:=by omega
  have n1 : nth (cut (kept ++ mid ++ p :: y :: rest) (k : Int) (n : Int)) (r : Int) = y:=by
   have : (cut (kept ++ mid ++ p :: y :: rest) (k : Int) (n : Int))[r]? = some y:=by
    unfold cut
    simp only [Int.toNat_natCast]
    rw [List.take_of_length_le (by rw [h2]; omega),List.getElem?_drop,List.getElem?_append_right (by simp; omega)]
    have : k + r - (kept ++ mid).length = 1:=by simp; omega
    rw [this]
    rfl
   exact Wk this
  have n2 : nth (cut (kept ++ mid ++ p :: y :: rest) (k : Int) (n : Int)) (W ((r : Int) - 1)) = p:=by
   rw [Jw (by omega) (by omega)]
   have hr : (r : Int) - 1 = ((r - 1 : Nat) : Int):=by omega
   rw [hr]
   have : (cut (kept ++ mid ++ p :: y :: rest) (k : Int) (n : Int))[r - 1]? = some p:=by
    unfold cut
    simp only [Int.toNat_natCast]
    rw [List.take_of_length_le (by rw [h2]; omega),List.getElem?_drop,List.getElem?_append_right (by simp; omega)]
    have : k + (r - 1) - (kept ++ mid).length = 0:=by simp; omega
    rw [this]
    rfl
   exact Wk this
  have w1 : W ((r : Int) + 1) = ((r + 1 : Nat) : Int):=by rw [Jw (by omega) (by omega)]; rfl
  have w2 : W ((kept.length : Int) + 1) = ((kept.length + 1 : Nat) : Int):=by rw [Jw (by omega) (by omega)]; rfl
  rw [h,if_pos (by simp only [Int.toNat_natCast,decide_eq_true_eq]; omega),Ky (Ge.2 (by simp only [Int.toNat_natCast]; omega)),Ky (Ge.2 (by simp only [Int.toNat_natCast]; rw [Jw (by omega) (by omega)]; omega)),n1,n2,w1,w2]
  by_cases hy : y = p
  ·rw [if_neg (by simp [hy])]
   obtain ⟨mid',e,e'⟩:=Zb k n j F h hn rest kept (mid ++ [p]) y m (r + 1) (by omega) (by simp; omega) (by omega) (by simp; omega)
   refine ⟨mid',?_,?_⟩
   ·have e1 : kept ++ (mid ++ [p]) ++ y :: rest = kept ++ mid ++ p :: y :: rest:=by simp
    rw [e1] at e
    rw [e]
    simp [nbF,hy]
   ·rw [← e']
    simp [nbF,hy]
  ·rw [if_pos (by simp [hy]),Ky (Ge.2 (by simp only [Int.toNat_natCast]; omega)),Ky (Ge.2 (by rw [h2]; omega))]
   cases mid with
   | nil =>
    obtain ⟨mid',e,e'⟩:=Zb k n j F h hn rest (kept ++ [y]) [] y m (r + 1) (by omega) (by simp; omega) (by omega) (by simp at h4 ⊢; omega)
    refine ⟨mid',?_,?_⟩
    ·have e1 : (kept ++ [] ++ p :: y :: rest).set (kept.length : Int).toNat y = kept ++ [y] ++ [] ++ y :: rest:=by simp
     rw [e1]
     have e2 : ((kept.length + 1 : Nat) : Int) = ((kept ++ [y]).length : Int):=by simp
     rw [e2,e]
     simp [nbF,hy]
    ·rw [← e']
     simp [nbF,hy]
   | cons z mid0 =>
    obtain ⟨mid',e,e'⟩:=Zb k n j F h hn rest (kept ++ [y]) (mid0 ++ [p]) y m (r + 1) (by omega) (by simp at h2' ⊢; omega) (by omega) (by simp at h4 ⊢; omega)
    refine ⟨mid',?_,?_⟩
    ·have e1 : (kept ++ z :: mid0 ++ p :: y :: rest).set (kept.length : Int).toNat y = kept ++ [y] ++ (mid0 ++ [p]) ++ y :: rest:=by simp
     rw [e1]
     have e2 : ((kept.length + 1 : Nat) : Int) = ((kept ++ [y]).length : Int):=by simp
     rw [e2,e]
     simp [nbF,hy]
    ·rw [← e']
     simp [nbF,hy]
end
end Go.Proofs.YtocmlionnalaaaaGreatDoor
namespace Go.Proofs.YtocmlionnalaaaaGreatDoor
open Go
theorem Zy {κ ν : Type} [DecidableEq κ] (k k' : κ) (v : ν) : ∀ (m : List (κ × ν)) (i : Nat),(Mi (Mo m k v) k' i).map (·.2) = if k' = k then some v else (Mi m k' i).map (·.2)
 | [],i=>by
  by_cases h : k' = k <;> simp [Mo,Mi,h]
 | (q,u) :: m,i=>by
  by_cases h1 : k = q
  ·subst h1
   by_cases h2 : k' = k <;> simp [Mo,Mi,h2]
  ·by_cases h2 : k' = q
   ·subst h2
    simp [Mo,Mi,h1]
    exact fun h=>(h1 h.symm).elim
   ·simp only [Mo,h1,if_false,Mi,h2]
    exact Zy k k' v m (i + 1)
theorem Pm {κ ν : Type} [DecidableEq κ] (m : List (κ × ν)) (k k' : κ) (v d : ν) : Cr (Mo m k v) k' d = if k' = k then v else Cr m k' d:=by
 unfold Cr Xh
 rw [Zy]
 split <;> simp
end Go.Proofs.YtocmlionnalaaaaGreatDoor
namespace Go.Proofs.YtocmlionnalaaaaGreatDoor
open Go
def Dr {α : Type} (a k : Int) (Q : α → Prop) (o : Option (α × Int)) : Prop:=∃ v b,o = some (v,b) ∧ a ≤ b ∧ b ≤ a + k ∧ Q v
abbrev Uj (L : List Int) : Prop:=(L.length : Int) ≤ 9223372036854775807
section
variable {L : List Int} (hL : Uj L) {a : Int} (h0 : 0 ≤ a) (h1 : a ≤ 1000000000000)
include hL h0 h1
theorem CA (n : Int) (hn : n ≤ 4611686018427387904) : Dr a 1 (fun v=>0 ≤ v ∧ (v < n ∨ (n < 1 ∧ v = 0))) (Jo L a n):=by
 obtain ⟨v,e,g⟩:=Sy L a n h0 (by omega) hL hn
 exact ⟨v,a + 1,e,by omega,by omega,g⟩
theorem Zc (l : List Int) (hl : 0 < l.length) (hl' : l.length ≤ 1000) : Dr a 1 (fun v=>v ∈ l) (Ku L a l):=by
 obtain ⟨v,e,g⟩:=BV L a l h0 (by omega) hL hl hl'
 exact ⟨v,a + 1,e,by omega,by omega,g⟩
theorem Uk (n : Int) (hn : n ≤ 4611686018427387904) : Dr a 1 (fun _=>True) (Jq L a n):=by
 obtain ⟨v,e⟩:=BW L a n h0 (by omega) hL hn
 exact ⟨v,a + 1,e,by omega,by omega,trivial⟩
theorem Rp (l : List ByteArray) (hl : 0 < l.length) (hl' : l.length ≤ 1000) : Dr a 1 (fun v=>v ∈ l) (Jp L a l):=by
 obtain ⟨v,e1,h1,h2⟩:=Sy L a (l.length : Int) h0 (by omega) hL (by omega)
 have hc : inB v l.length = true:=Ge.2 ⟨h1,by omega⟩
 unfold Jp
 rw [e1]
 simp only [Option.bind_some]
 rw [Hl hc]
 exact ⟨nth l v,a + 1,rfl,by omega,by omega,List.mem_of_getElem? (Cn hc).1⟩
theorem Zz (low high : Int) (h2 : -1000000000000 ≤ low) (h3 : low ≤ 1000000000000) (h4 : high ≤ 1000000000000) : Dr a 1 (fun v=>low ≤ v ∧ (v ≤ high ∨ v = low)) (Jy L a low high):=by
 unfold Jy
 by_cases h : high < low
 ·exact ⟨low,a,by simp [h],by omega,by omega,by omega,.inr rfl⟩
 ·have w1 : W (high - low) = high - low:=Jw (by omega) (by omega)
  have w2 : W (high - low + 1) = high - low + 1:=Jw (by omega) (by omega)
  obtain ⟨v,e,g1,g2⟩:=Sy L a (high - low + 1) h0 (by omega) hL (by omega)
  rw [if_neg (by simpa using h),w1,w2,e]
  have w3 : W (low + v) = low + v:=Jw (by omega) (by omega)
  exact ⟨_,_,rfl,by show a ≤ a + 1; omega,by show a + 1 ≤ a + 1; omega,by simp only [w3]; omega⟩
theorem AY (low high : Int) (h2 : -1000000000000 ≤ low) (h3 : low ≤ 1000000000000) (h4 : high ≤ 1000000000000) : Dr a 2 (fun _=>True) (Nv L a low high):=by
 obtain ⟨b,e1⟩:=BW L a 12 h0 (by omega) hL (by omega)
 unfold Nv
 rw [e1]
 simp only [Option.bind_some]
 cases b with
 | true =>
  obtain ⟨v,e,_⟩:=BV L (a + 1) [W (low - 1),W (high + 1),low,high,(-1099511627776),1099511627776] (by omega) (by omega) hL (by simp) (by simp)
  rw [if_pos rfl,e]
  exact ⟨_,_,rfl,by show a ≤ a + 1 + 1; omega,by show a + 1 + 1 ≤ a + 2; omega,trivial⟩
 | false =>
  unfold Jy
  by_cases h : high < low
  ·rw [if_neg (by simp),if_pos (by simpa using h)]
   exact ⟨_,_,rfl,by show a ≤ a + 1; omega,by show a + 1 ≤ a + 2; omega,trivial⟩
  ·have w1 : W (high - low) = high - low:=Jw (by omega) (by omega)
   have w2 : W (high - low + 1) = high - low + 1:=Jw (by omega) (by omega)
   obtain ⟨v,e,g1,g2⟩:=Sy L (a + 1) (high - low + 1) (by omega) (by omega) hL (by omega)
   rw [if_neg (by simp),if_neg (by simpa using h),w1,w2,e]
   exact ⟨_,_,rfl,by show a ≤ a + 1 + 1; omega,by show a + 1 + 1 ≤ a + 2; omega,trivial⟩
end
end Go.Proofs.YtocmlionnalaaaaGreatDoor
namespace Go.Proofs.YtocmlionnalaaaaGreatDoor
open Go
theorem CB : ∀ l : List UInt8,Lib.compareBytes l l = 0
 | []=>rfl
 | a :: l=>by
  rw [Lib.compareBytes,if_neg (by simp),if_neg (by simp)]; exact CB l
theorem CC : ∀ l m : List UInt8,Lib.compareBytes l m = 0 → l = m
 | [],[],_=>rfl
 | [],_ :: _,h=>by simp [Lib.compareBytes] at h
 | _ :: _,[],h=>by simp [Lib.compareBytes] at h
 | a :: l,b :: m,h=>by
  rw [Lib.compareBytes] at h
  split at h
  ·cases h
  ·split at h
   ·cases h
   ·rename_i h1 h2
    rw [UInt8.lt_iff_toNat_lt] at h1 h2
    rw [CC l m h,show a = b from UInt8.toNat_inj.1 (by omega)]
theorem CD : ∀ l m : List UInt8,Lib.compareBytes m l = - Lib.compareBytes l m
 | [],[]=>rfl
 | [],_ :: _=>rfl
 | _ :: _,[]=>rfl
 | a :: l,b :: m=>by
  rw [Lib.compareBytes,Lib.compareBytes,CD l m]
  simp only [UInt8.lt_iff_toNat_lt]
  by_cases h1 : a.toNat < b.toNat
  ·rw [if_neg (by omega),if_pos h1,if_pos h1]; rfl
  ·by_cases h2 : b.toNat < a.toNat
   ·rw [if_pos h2,if_neg h1,if_pos h2]
   ·rw [if_neg h2,if_neg h1,if_neg h1,if_neg h2]
theorem AA : ∀ l m k : List UInt8,Lib.compareBytes l m < 0 → Lib.compareBytes m k < 0 → Lib.compareBytes l k < 0
 | l,m,[],_,h=>by cases m <;> simp [Lib.compareBytes] at h
 | [],m,c :: k,_,_=>by simp [Lib.compareBytes]
 | a :: l,[],c :: k,h,_=>by simp [Lib.compareBytes] at h
 | a :: l,b :: m,c :: k,h1,h2=>by
  rw [Lib.compareBytes] at h1 h2 ⊢
  simp only [UInt8.lt_iff_toNat_lt] at h1 h2 ⊢
  by_cases g1 : a.toNat < b.toNat
  ·by_cases g2 : c.toNat < b.toNat
   ·rw [if_neg (by omega),if_pos g2] at h2; cases h2
   ·rw [if_pos (by omega)]; decide
  ·by_cases g1' : b.toNat < a.toNat
   ·rw [if_neg g1,if_pos g1'] at h1; cases h1
   ·rw [if_neg g1,if_neg g1'] at h1
    by_cases g2 : b.toNat < c.toNat
    ·rw [if_pos (by omega)]; decide
    ·by_cases g3 : c.toNat < b.toNat
     ·rw [if_neg g2,if_pos g3] at h2; cases h2
     ·rw [if_neg g2,if_neg g3] at h2
      rw [if_neg (by omega),if_neg (by omega)]
      exact AA l m k h1 h2
def cB (s t : ByteArray) : Int:=Lib.compareBytes s.data.toList t.data.toList
theorem Pn (s : ByteArray) : cB s s = 0:=CB _
theorem Ul {s t : ByteArray} (h : cB s t = 0) : s = t:=by
 have:=CC _ _ h
 cases s; cases t
 simpa using this
theorem Wl (s t : ByteArray) : cB t s = - cB s t:=CD _ _
theorem Sm {s t u : ByteArray} (h1 : cB s t < 0) (h2 : cB t u < 0) : cB s u < 0:=AA _ _ _ h1 h2
def leB (s t : ByteArray) : Prop:=cB s t < 0 ∨ s = t
end Go.Proofs.YtocmlionnalaaaaGreatDoor
namespace Go.Proofs.YtocmlionnalaaaaGreatDoor
open Go
section
variable {L : List Int} (hL : Uj L)
include hL
end
def kR (x : An) : Int:=if x.Rank = 0 then 301 else x.Rank
def Om (x y : An) : Bool:=decide (cB x.Race y.Race < 0 ∨ (x.Race = y.Race ∧ (kR x < kR y ∨ (kR x = kR y ∧ cB x.Who y.Who < 0))))
theorem Pe {x y : An} : Om x y = true ↔ (cB x.Race y.Race < 0 ∨ (x.Race = y.Race ∧ (kR x < kR y ∨ (kR x = kR y ∧ cB x.Who y.Who < 0)))):=by simp [Om]
theorem Xc (x y z : An) (h1 : Om x y = true) (h2 : Om y z = true) : Om x z = true:=by
 rw [Pe] at *
 rcases h1 with h1 | ⟨e1,h1⟩
 ·rcases h2 with h2 | ⟨e2,_⟩
  ·exact .inl (Sm h1 h2)
  ·exact .inl (by rw [← e2]; exact h1)
 ·rcases h2 with h2 | ⟨e2,h2⟩
  ·exact .inl (by rw [e1]; exact h2)
  ·refine .inr ⟨e1.trans e2,?_⟩
   rcases h1 with h1 | ⟨k1,h1⟩
   ·rcases h2 with h2 | ⟨k2,_⟩ <;> exact .inl (by omega)
   ·rcases h2 with h2 | ⟨k2,h2⟩
    ·exact .inl (by omega)
    ·exact .inr ⟨by omega,Sm h1 h2⟩
theorem AZ {x y : An} (h : x.Who ≠ y.Who) (h1 : Om y x = false) : Om x y = true:=by
 rw [Pe]
 have h2 : ¬ (cB y.Race x.Race < 0 ∨ (y.Race = x.Race ∧ (kR y < kR x ∨ (kR y = kR x ∧ cB y.Who x.Who < 0)))):=fun h=>by rw [← Pe,h1] at h; cases h
 rw [not_or,not_and,not_or,not_and] at h2
 obtain ⟨g1,g2⟩:=h2
 by_cases e : x.Race = y.Race
 ·right
  refine ⟨e,?_⟩
  obtain ⟨g3,g4⟩:=g2 e.symm
  by_cases hk : kR x = kR y
  ·right
   refine ⟨hk,?_⟩
   have:=g4 hk.symm
   have h0 : cB x.Who y.Who ≠ 0:=fun e=>h (Ul e)
   have:=Wl x.Who y.Who
   omega
  ·left; omega
 ·left
  have h0 : cB x.Race y.Race ≠ 0:=fun e'=>e (Ul e')
  have:=Wl x.Race y.Race
  omega
def RR (x : An) : Prop:=0 ≤ x.Rank ∧ x.Rank ≤ 300
theorem EK (n : Int) : (Nk n < 0) ↔ n < 0:=by
 unfold Nk
 by_cases h : n < 0
 ·simp [h]
 ·by_cases h' : 0 < n
  ·simp [h,h']
  ·simp [h,h']
theorem EL (x : An) : En x = kR x:=by
 unfold En kR
 simp
theorem Zd {x : An} (h : RR x) : 1 ≤ kR x ∧ kR x ≤ 301:=by
 unfold kR; have:=h.1; have:=h.2; split <;> omega
theorem Yg {x y : An} (hx : RR x) (hy : RR y) : decide (Dx x y < 0) = Om x y:=by
 have h1:=Zd hx
 have h2:=Zd hy
 have hc : Ef x.Race y.Race = cB x.Race y.Race:=rfl
 have hw : Ef x.Who y.Who = cB x.Who y.Who:=rfl
 unfold Dx Om
 rw [EL,EL,hc,hw]
 by_cases e : x.Race = y.Race
 ·rw [if_neg (by simp [e]),e,Pn]
  by_cases k : kR x = kR y
  ·rw [if_neg (by simp [k])]; simp [k]
  ·rw [if_pos (by simp [k])]
   rw [decide_eq_decide,EK,Jw (by omega) (by omega)]
   simp [k]; omega
 ·rw [if_pos (by simp [e])]
  simp [e]
theorem CW (l : List An) (hl : l.length ≤ 12) : Ed l 0 (l.length : Int) = some (Km (fun x y=>decide (Dx x y < 0)) l):=by
 unfold Ed
 simp only [Ma]
 have hins : ∀ (k : List An → Option (List An)) (rp : List An) (x : An) (post : List An),((rp ++ x :: post).length : Int) = (l.length : Int) → (∀ y,y ∈ rp ∨ y = x ∨ y ∈ post → y ∈ (rp ++ x :: post)) →
   Cl 0 k (((rp.length : Int) - 0).toNat + 2) (rp.reverse ++ x :: post) (rp.length : Int) = k ((Mh (fun x y=>decide (Dx x y < 0)) x rp).reverse ++ post):=by
  intro k rp x post h1 _
  exact BX (fun x y k=>k (decide (Dx x y < 0))) (fun x y=>decide (Dx x y < 0)) k (Cl 0 k) (fun _ _ _=>rfl) rp x post _ (by omega) (by simp at h1; omega) fun y _ k'=>rfl
 cases l with
 | nil=>rfl
 | cons x l =>
  have hw : W (0 + 1) = (([x] : List An).length : Int):=rfl
  rw [hw]
  exact Wj (fun x y=>decide (Dx x y < 0)) (fun x=>some x) (fun k x i=>Cl 0 k ((i - 0).toNat + 2) x i) (Ct ((x :: l).length : Int) 0 fun x=>some x) ((x :: l).length : Int) (fun _ _ _=>rfl)
   (fun k rp x post h1 h2=>hins k rp x post h1 h2) l [x] _ (by simp only [List.length_cons,List.length_nil]; omega) (by simp only [List.length_cons,List.length_nil]; omega) (by simp only [List.length_cons,List.length_nil] at hl ⊢; omega)
theorem len_p : ∀ n : Fin 13,(Sg (IntKind.wrap .u64 (n.val : Int))).isSome = true:=by decide +kernel
theorem EM (l : List An) (hl : l.length ≤ 12) (h : ∀ x ∈ l,RR x) : Dv l = some (Km Om l):=by
 unfold Dv
 obtain ⟨r,hr⟩:=Option.isSome_iff_exists.1 (len_p ⟨l.length,by omega⟩)
 simp only at hr
 rw [hr]
 simp only [Option.bind_some]
 unfold Fi
 rw [show (4611686018427387904 : Nat) = 4611686018427387903 + 1 from rfl,Dd,Jw (by omega) (by omega),if_pos (decide_eq_true (by omega)),CW l hl]
 rw [Vw l fun x hx y hy=>Yg (h x hx) (h y hy)]
 rfl
def Qr : List ByteArray:=[Kh,Pa,Pb,Pc,Pd]
def Um : List ByteArray:=[Jg,Mp,Mq]
def Rs : List ByteArray:=[Ie,Ie,Of,Tj,Co]
structure O0 (race : ByteArray) (rel : Bool) (o : List An) : Prop where
 len : o.length ≤ 5
 row : ∀ x ∈ o,x.Race = race ∧ x.Relay = rel ∧ x.Who ∈ Qr ∧ x.Club ∈ Rs ∧ 0 ≤ x.Rank ∧ x.Rank ≤ 4
 who : o.Pairwise fun x y=>x.Who ≠ y.Who
section
variable {L : List Int} (hL : Uj L)
include hL
theorem EN (race : ByteArray) (r1 : Bool × Int) (j : List An → Int → Option (List An × Int)) : ∀ (ys : List ByteArray) (i : Nat) (x3 : List An) (a : Int),ys.Nodup → (∀ y ∈ ys,y ∈ Qr) → (∀ x ∈ x3,x.Who ∉ ys) → x3.length + ys.length ≤ 5 → O0 race r1.1 x3 → 0 ≤ a → a + 3 * ys.length ≤ 1000000 →
  ∃ o b,Ga L race r1 j ys i x3 a = j o b ∧ O0 race r1.1 o ∧ a ≤ b ∧ b ≤ a + 3 * ys.length
 | [],i,x3,a,_,_,_,_,h,_,_=>⟨x3,a,rfl,h,by omega,by simp⟩
 | y :: ys,i,x3,a,h1,h2,h3,h4,h5,h6,h7=>by
  obtain ⟨n1,n2⟩:=List.nodup_cons.1 h1
  simp only [List.length_cons] at h4 h7 ⊢
  rw [Ga]
  obtain ⟨f,b,e,g1,g2,_⟩:=Uk hL h6 (by omega) 4 (by omega)
  rw [e]; simp only [Option.bind_some,Ia]
  have hys : ∀ z ∈ ys,z ∈ Qr:=fun z hz=>h2 z (List.mem_cons_of_mem _ hz)
  cases f with
  | true =>
   rw [if_neg (by simp)]
   obtain ⟨o,c,e',q1,q2,q3⟩:=EN race r1 j ys (i + 1) x3 b n2 hys (fun x hx hm=>h3 x hx (List.mem_cons_of_mem _ hm)) (by omega) h5 (by omega) (by omega)
   exact ⟨o,c,e',q1,by omega,by omega⟩
  | false =>
   rw [if_pos (by simp)]
   obtain ⟨c,b2,e2,g3,g4,mc⟩:=Rp hL (a:=b) (by omega) (by omega) [Ie,Ie,Of,Tj,Co] (by simp) (by simp)
   rw [e2]; simp only [Option.bind_some]
   obtain ⟨v,b3,e3,g5,g6,mv⟩:=Zc hL (a:=b2) (by omega) (by omega) [0,1,2,2,3,4] (by simp) (by simp)
   rw [e3]; simp only [Option.bind_some]
   rw [Hl (by unfold Pj; simp; omega)]
   have hv : 0 ≤ v ∧ v ≤ 4:=by simp at mv; omega
   obtain ⟨o,d,e',q1,q2,q3⟩:=EN race r1 j ys (i + 1) (x3 ++ [An.mk race y c v r1.1]) b3 n2 hys (fun x hx hm=>by
    rcases List.mem_append.1 hx with hx | hx
    ·exact h3 x hx (List.mem_cons_of_mem _ hm)
    ·obtain rfl:=List.mem_singleton.1 hx; exact n1 hm) (by simp; omega) ⟨by simp; omega,fun x hx=>by
    rcases List.mem_append.1 hx with hx | hx
    ·exact h5.row x hx
    ·obtain rfl:=List.mem_singleton.1 hx
     exact ⟨rfl,rfl,h2 y List.mem_cons_self,mc,hv.1,hv.2⟩,by
    rw [List.pairwise_append]
    refine ⟨h5.who,by simp,fun x hx z hz he=>?_⟩
    obtain rfl:=List.mem_singleton.1 hz
    exact h3 x hx (by rw [he]; exact List.mem_cons_self)⟩ (by omega) (by omega)
   exact ⟨o,d,e',q1,by omega,by omega⟩
end
def rk (o : List An) (r : Int) : Nat:=1 + o.countP fun z=>decide (0 < z.Rank) && decide (z.Rank < r)
def fR (o : List An) (x : An) : An:=if 0 < x.Rank then An.mk x.Race x.Who x.Club (x.Rank + 10 * (rk o x.Rank : Int)) x.Relay else x
def hR (o : List An) (x : An) : An:=An.mk x.Race x.Who x.Club (if 0 < x.Rank then (rk o x.Rank : Int) else 0) x.Relay
def cnd (x y : An) : Bool:=((decide (0 < y.Rank)) && (decide ((Int.tmod y.Rank 10) < (Int.tmod (x.Rank) 10)))) && (decide (0 < x.Rank))
theorem EO (o : List An) (r : Int) : rk o r ≤ 1 + o.length:=by
 unfold rk; have:=List.countP_le_length (p:=fun z : An=>decide (0 < z.Rank) && decide (z.Rank < r)) (l:=o); omega
theorem EP (x9 : List An) (i3 : Nat) (j : Int → Option (List An × Int)) : ∀ (ys : List An) (i : Nat) (x : Int),0 ≤ x → x + ys.length ≤ 1000 → Fp x9 i3 j ys i x = j (x + (ys.countP (cnd (nth x9 (i3 : Int))) : Nat))
 | [],i,x,_,_=>by rw [Fp]; simp
 | y :: ys,i,x,h1,h2=>by
  simp only [List.length_cons] at h2
  rw [Fp,List.countP_cons]
  simp only [Ia]
  have hc : (((decide (0 < y.Rank)) && (decide ((Int.tmod y.Rank 10) < (Int.tmod ((nth x9 (i3 : Int)).Rank) 10)))) && (decide (0 < ((nth x9 (i3 : Int)).Rank)))) = cnd (nth x9 (i3 : Int)) y:=rfl
  rw [hc]
  cases hb : cnd (nth x9 (i3 : Int)) y with
  | true =>
   rw [if_pos rfl,Jw (by omega) (by omega),EP x9 i3 j ys (i + 1) (x + 1) (by omega) (by omega)]
   simp only [if_true]
   congr 1; omega
  | false =>
   rw [if_neg (by simp),EP x9 i3 j ys (i + 1) x h1 (by omega)]
   simp
theorem tmod10 {r : Int} {k : Nat} (h0 : 0 ≤ r) (h : r ≤ 4) : Int.tmod (r + 10 * (k : Int)) 10 = r:=by
 rw [Int.tmod_eq_emod_of_nonneg (by omega)]; omega
theorem CE {r : Int} (h0 : 0 ≤ r) (h : r ≤ 4) : Int.tmod r 10 = r:=by
 rw [Int.tmod_eq_emod_of_nonneg h0]; omega
theorem cnd_f (o : List An) {x y : An} (hx : 0 ≤ x.Rank ∧ x.Rank ≤ 4) (hy : 0 ≤ y.Rank ∧ y.Rank ≤ 4) : cnd x (fR o y) = (decide (0 < y.Rank) && decide (y.Rank < x.Rank)) ∧ cnd x y = (decide (0 < y.Rank) && decide (y.Rank < x.Rank)):=by
 have e1:=CE hx.1 hx.2
 have e2:=CE hy.1 hy.2
 have key : ((decide (0 < y.Rank) && decide (y.Rank < x.Rank)) && decide (0 < x.Rank)) = (decide (0 < y.Rank) && decide (y.Rank < x.Rank)):=by
  rw [Bool.eq_iff_iff]; simp only [Bool.and_eq_true,decide_eq_true_eq]; omega
 refine ⟨?_,by unfold cnd; rw [e1,e2,key]⟩
 unfold fR
 by_cases h : 0 < y.Rank
 ·rw [if_pos h]
  unfold cnd
  simp only
  rw [tmod10 hy.1 hy.2,e1,decide_eq_true h,decide_eq_true (show 0 < y.Rank + 10 * (rk o y.Rank : Int) by omega)]
  rw [decide_eq_true h] at key
  exact key
 ·rw [if_neg h]
  unfold cnd; rw [e1,e2,key]
theorem sc_l3 (o : List An) (ho : o.length ≤ 5) (hr : ∀ x ∈ o,0 ≤ x.Rank ∧ x.Rank ≤ 4) (j : List An → Option (List An × Int)) : ∀ (b a ys : List An),o = a ++ b → ys.length = b.length → Ey j ys a.length (a.map (fR o) ++ b) = j (o.map (fR o))
 | [],a,ys,h,hy=>by
  have : ys = []:=List.eq_nil_of_length_eq_zero (by simpa using hy)
  subst this
  rw [Ey,h]; simp
 | x :: b,a,ys,h,hy=>by
  cases ys with
  | nil=>simp at hy
  | cons z ys =>
   have hxo : x ∈ o:=by rw [h]; simp
   have hal : a.length + b.length + 1 = o.length:=by rw [h]; simp; omega
   have hx:=hr x hxo
   rw [Ey]
   simp only [Ia]
   have hn : nth (a.map (fR o) ++ x :: b) (a.length : Int) = x:=Qa _ _ _ (by simp)
   have hin : inB (a.length : Int) (a.map (fR o) ++ x :: b).length = true:=Ge.2 (by simp; omega)
   rw [Hl hin,EP _ _ _ _ _ _ (by omega) (by simp; omega),hn]
   have hcount : (a.map (fR o) ++ x :: b).countP (cnd x) = o.countP fun z=>decide (0 < z.Rank) && decide (z.Rank < x.Rank):=by
    rw [List.countP_append,List.countP_map]
    have e1 : a.countP (cnd x ∘ fR o) = a.countP fun z=>decide (0 < z.Rank) && decide (z.Rank < x.Rank) :=
     List.countP_congr fun z hz=>by simp only [Function.comp]; rw [(cnd_f o hx (hr z (by rw [h]; simp [hz]))).1]
    have e2 : (x :: b).countP (cnd x) = (x :: b).countP fun z=>decide (0 < z.Rank) && decide (z.Rank < x.Rank) :=
     List.countP_congr fun z hz=>by rw [(cnd_f o hx (hr z (by rw [h]; exact List.mem_append_right _ hz))).2]
    rw [e1,e2,← List.countP_append,← h]
   rw [hcount]
   have hrk : (1 : Int) + ((o.countP fun z=>decide (0 < z.Rank) && decide (z.Rank < x.Rank) : Nat) : Int) = (rk o x.Rank : Int):=by unfold rk; push_cast; rfl
   have hle:=EO o x.Rank
   have ih:=sc_l3 o ho hr j b (a ++ [x]) ys (by rw [h]; simp) (by simpa using hy)
   rw [List.length_append,List.length_singleton] at ih
   rw [hrk]
   by_cases hp : 0 < x.Rank
   ·rw [if_pos (decide_eq_true hp),Hl hin,Jw (n:=10 * (rk o x.Rank : Int)) (by omega) (by omega),Jw (by omega) (by omega)]
    have hf : fR o x = An.mk x.Race x.Who x.Club (x.Rank + 10 * (rk o x.Rank : Int)) x.Relay:=by unfold fR; rw [if_pos hp]
    have hset : (a.map (fR o) ++ x :: b).set ((a.length : Int).toNat) (An.mk x.Race x.Who x.Club (x.Rank + 10 * (rk o x.Rank : Int)) x.Relay) = (a ++ [x]).map (fR o) ++ b:=by
     rw [← hf,show (a.length : Int).toNat = (a.map (fR o)).length by simp,List.set_append_right _ _ (Nat.le_refl _)]
     simp
    rw [hset]; exact ih
   ·rw [if_neg (by simpa using hp)]
    have hf : fR o x = x:=by unfold fR; rw [if_neg hp]
    have : a.map (fR o) ++ x :: b = (a ++ [x]).map (fR o) ++ b:=by simp [hf]
    rw [this]; exact ih
def g5 (x : An) : An:=An.mk x.Race x.Who x.Club (W (Int.tdiv x.Rank 10)) x.Relay
theorem sc_l5 (j : List An → Option (List An × Int)) : ∀ (b a ys : List An),ys.length = b.length → (a ++ b).length ≤ 5 → Et j ys a.length (a.map g5 ++ b) = j ((a ++ b).map g5)
 | [],a,ys,hy,_=>by
  have : ys = []:=List.eq_nil_of_length_eq_zero (by simpa using hy)
  subst this
  rw [Et]; simp
 | x :: b,a,ys,hy,hl=>by
  cases ys with
  | nil=>simp at hy
  | cons z ys =>
   rw [Et]
   have hn : nth (a.map g5 ++ x :: b) (a.length : Int) = x:=Qa _ _ _ (by simp)
   have hin : inB (a.length : Int) (a.map g5 ++ x :: b).length = true:=Ge.2 (by simp; omega)
   rw [Hl hin,Hl hin,hn]
   have hset : (a.map g5 ++ x :: b).set ((a.length : Int).toNat) (An.mk x.Race x.Who x.Club (W (Int.tdiv x.Rank 10)) x.Relay) = (a ++ [x]).map g5 ++ b:=by
    rw [show An.mk x.Race x.Who x.Club (W (Int.tdiv x.Rank 10)) x.Relay = g5 x from rfl,show (a.length : Int).toNat = (a.map g5).length by simp,List.set_append_right _ _ (Nat.le_refl _)]
    simp
   rw [hset]
   have ih:=sc_l5 j b (a ++ [x]) ys (by simpa using hy) (by simp at hl ⊢; omega)
   rw [List.length_append,List.length_singleton] at ih
   rw [ih]; simp
theorem g5_f (o : List An) (ho : o.length ≤ 5) {x : An} (hx : 0 ≤ x.Rank ∧ x.Rank ≤ 4) : g5 (fR o x) = hR o x:=by
 have hle:=EO o x.Rank
 unfold fR hR g5
 by_cases h : 0 < x.Rank
 ·rw [if_pos h,if_pos h]
  simp only
  have : Int.tdiv (x.Rank + 10 * (rk o x.Rank : Int)) 10 = (rk o x.Rank : Int):=by
   rw [Int.tdiv_eq_ediv_of_nonneg (by omega)]; omega
  rw [this,Jw (by omega) (by omega)]
 ·rw [if_neg h,if_neg h]
  have h0 : x.Rank = 0:=by omega
  rw [h0]; rfl
def gp (o : List An) : List An:=Km Om (o.map (hR o))
theorem hR_rr {race : ByteArray} {rel : Bool} {o : List An} (h : O0 race rel o) (x : An) : 0 ≤ (hR o x).Rank ∧ (hR o x).Rank ≤ 6:=by
 have hle:=EO o x.Rank
 have:=h.len
 unfold hR
 simp only
 split <;> omega
section
variable {L : List Int} (hL : Uj L)
include hL
theorem sc_l1 (j : List An → Int → Option (List An × Int)) : ∀ (ys : List ByteArray) (i : Nat) (x1 : List An) (a : Int),0 ≤ a → a + 16 * ys.length ≤ 1000000 → x1.length + 5 * ys.length ≤ 1000 →
  ∃ (os : List (Bool × List An)) (b : Int),Ej L j ys i x1 a = j (x1 ++ (os.map fun p=>gp p.2).flatten) b ∧ a ≤ b ∧ b ≤ a + 16 * ys.length ∧ os.length = ys.length ∧ ∀ (k : Nat) (y : ByteArray) (p : Bool × List An),ys[k]? = some y → os[k]? = some p → O0 y p.1 p.2
 | [],i,x1,a,_,_,_=>⟨[],a,by rw [Ej]; simp,by omega,by simp,rfl,fun k y p h=>by simp at h⟩
 | y :: ys,i,x1,a,h1,h2,h3=>by
  simp only [List.length_cons] at h2 h3
  rw [Ej]
  obtain ⟨f,b,e,g1,g2,_⟩:=Uk hL h1 (by omega) 3 (by omega)
  rw [e]; simp only [Option.bind_some,Ia]
  obtain ⟨o,c,e2,q1,q2,q3⟩:=EN hL y (f,b) (fun (x3 : List An) (x4 : Int)=>Ey (fun x9=>Et (fun x15=>Option.bind (Dv x15) (fun r5=>Chk (decide (x1.length + r5.length < 1073741824)) (Ej L j ys (i + 1) (x1 ++ r5) x4))) x9 0 x9) x3 0 x3) [Kh,Pa,Pb,Pc,Pd] 0 [] b (by decide +kernel) (fun y hy=>hy) (fun _ h=>by cases h) (by simp) ⟨by simp,(fun _ h=>by cases h),List.Pairwise.nil⟩ (by omega) (by simp; omega)
  simp only [List.length_cons,List.length_nil] at q3
  rw [e2]
  have hrr : ∀ x ∈ o,0 ≤ x.Rank ∧ x.Rank ≤ 4:=fun x hx=>(q1.row x hx).2.2.2.2
  have h3':=sc_l3 o q1.len hrr (fun x9=>Et (fun x15=>Option.bind (Dv x15) (fun r5=>Chk (decide (x1.length + r5.length < 1073741824)) (Ej L j ys (i + 1) (x1 ++ r5) c))) x9 0 x9) o [] o rfl rfl
  simp only [List.length_nil,List.map_nil,List.nil_append] at h3'
  rw [h3']
  have h5':=sc_l5 (fun x15=>Option.bind (Dv x15) (fun r5=>Chk (decide (x1.length + r5.length < 1073741824)) (Ej L j ys (i + 1) (x1 ++ r5) c))) (o.map (fR o)) [] (o.map (fR o)) rfl (by simpa using q1.len)
  simp only [List.length_nil,List.map_nil,List.nil_append] at h5'
  rw [h5']
  have hm : (o.map (fR o)).map g5 = o.map (hR o):=by
   rw [List.map_map]
   exact List.map_congr_left fun x hx=>g5_f o q1.len (hrr x hx)
  have hol:=q1.len
  rw [hm,EM _ (by simp; omega) (fun x hx=>by
   obtain ⟨z,_,rfl⟩:=List.mem_map.1 hx
   have:=hR_rr q1 z
   exact ⟨this.1,by omega⟩)]
  simp only [Option.bind_some]
  have hgl : (Km Om (o.map (hR o))).length = o.length:=by rw [Tq,List.length_map]
  rw [Hl (by simp; omega)]
  obtain ⟨os,d,e3,r1,r2,r3,r4⟩:=sc_l1 j ys (i + 1) (x1 ++ Km Om (o.map (hR o))) c (by omega) (by omega) (by rw [List.length_append]; omega)
  refine ⟨(f,o) :: os,d,by rw [e3]; simp [gp],by omega,by simp; omega,by simp [r3],fun k z p hk hp=>?_⟩
  cases k with
  | zero=>simp at hk hp; subst hk hp; exact q1
  | succ k=>exact r4 k z p (by simpa using hk) (by simpa using hp)
end
end Go.Proofs.YtocmlionnalaaaaGreatDoor
namespace Go.Proofs.YtocmlionnalaaaaGreatDoor
open Go
def RankOk (g : List An) : Prop:=∀ a x b,g = a ++ x :: b → 0 < x.Rank → x.Rank = (a.length : Int) + 1 ∨ ∃ d y,a = d ++ [y] ∧ y.Rank = x.Rank
theorem Yh {α : Type} {p q : α → Bool} {e : α} (he : p e = true) (hq : q e = false) : ∀ (l : List α),(∀ x ∈ l,q x = true → p x = true) → e ∈ l → l.countP q < l.countP p
 | [],_,h=>by cases h
 | x :: l,hpq,h=>by
  rw [List.countP_cons,List.countP_cons]
  have hm : l.countP q ≤ l.countP p:=List.countP_mono_left fun z hz=>hpq z (List.mem_cons_of_mem _ hz)
  rcases List.mem_cons.1 h with rfl | h
  ·rw [if_pos he,if_neg (by simp [hq])]; omega
  ·have ih:=Yh he hq l (fun z hz=>hpq z (List.mem_cons_of_mem _ hz)) h
   have:=hpq x List.mem_cons_self
   split
   ·rename_i h1; rw [if_pos (this h1)]; omega
   ·split <;> omega
theorem rk_lt {o : List An} {w z : An} (hw : w ∈ o) (h0 : 0 < w.Rank) : rk o w.Rank < rk o z.Rank ↔ w.Rank < z.Rank:=by
 unfold rk
 constructor
 ·intro h
  rcases Int.lt_or_le w.Rank z.Rank with h1 | h1
  ·exact h1
  ·have : o.countP (fun u=>decide (0 < u.Rank) && decide (u.Rank < z.Rank)) ≤ o.countP (fun u=>decide (0 < u.Rank) && decide (u.Rank < w.Rank)) :=
    List.countP_mono_left fun u _ hu=>by simp only [Bool.and_eq_true,decide_eq_true_eq] at hu ⊢; omega
   omega
 ·intro h
  have:=Yh (p:=fun u : An=>decide (0 < u.Rank) && decide (u.Rank < z.Rank)) (q:=fun u=>decide (0 < u.Rank) && decide (u.Rank < w.Rank)) (e:=w) (by simp [h0,h]) (by simp) o (fun u _ hu=>by simp only [Bool.and_eq_true,decide_eq_true_eq] at hu ⊢; omega) hw
  omega
structure GGd (race : ByteArray) (rel : Bool) (g : List An) : Prop where
 len : g.length ≤ 5
 row : ∀ x ∈ g,x.Race = race ∧ x.Relay = rel ∧ x.Who ∈ Qr ∧ x.Club ∈ Rs ∧ 0 ≤ x.Rank ∧ x.Rank ≤ 6
 asc : g.Pairwise fun x y=>Om x y = true
 who : g.Pairwise fun x y=>x.Who ≠ y.Who
 rank : RankOk g
theorem EQ {race : ByteArray} {rel : Bool} {o : List An} (h : O0 race rel o) : GGd race rel (gp o):=by
 have hperm : (gp o).Perm (o.map (hR o)):=AX _ _
 have hwho0 : (o.map (hR o)).Pairwise fun x y=>x.Who ≠ y.Who:=by
  rw [List.pairwise_map]; exact h.who
 have hwho : (gp o).Pairwise fun x y=>x.Who ≠ y.Who:=(hperm.pairwise_iff (fun h=>h.symm)).2 hwho0
 have hasc : (gp o).Pairwise fun x y=>Om x y = true:=Vh Xc _ (hwho0.imp fun hne h1=>AZ hne h1)
 have hrow : ∀ x ∈ gp o,x.Race = race ∧ x.Relay = rel ∧ x.Who ∈ Qr ∧ x.Club ∈ Rs ∧ 0 ≤ x.Rank ∧ x.Rank ≤ 6:=fun x hx=>by
  obtain ⟨z,hz,rfl⟩:=List.mem_map.1 (hperm.subset hx)
  obtain ⟨r1,r2,r3,r4,_⟩:=h.row z hz
  exact ⟨r1,r2,r3,r4,hR_rr h z⟩
 refine ⟨by rw [hperm.length_eq,List.length_map]; exact h.len,hrow,hasc,hwho,fun a x b e hx=>?_⟩
 have hxm : x ∈ gp o:=by rw [e]; simp
 obtain ⟨z,hz,hxz⟩:=List.mem_map.1 (hperm.subset hxm)
 have hz0 : 0 < z.Rank:=by
  rcases Int.lt_or_le 0 z.Rank with h1 | h1
  ·exact h1
  ·have : x.Rank = 0:=by rw [← hxz]; unfold hR; simp only; rw [if_neg (by omega)]
   omega
 have hxr : x.Rank = (rk o z.Rank : Int):=by rw [← hxz]; unfold hR; simp only; rw [if_pos hz0]
 -- how many are less
 have hcount : (gp o).countP (fun u=>decide (0 < u.Rank) && decide (u.Rank < x.Rank)) + 1 = rk o z.Rank:=by
  rw [hperm.countP_eq,List.countP_map]
  have : o.countP ((fun u : An=>decide (0 < u.Rank) && decide (u.Rank < x.Rank)) ∘ hR o) = o.countP fun u=>decide (0 < u.Rank) && decide (u.Rank < z.Rank):=by
   refine List.countP_congr fun u hu=>?_
   simp only [Function.comp,Bool.and_eq_true,decide_eq_true_eq]
   rw [hxr]
   have hur:=(h.row u hu).2.2.2.2
   unfold hR
   simp only
   by_cases hu0 : 0 < u.Rank
   ·rw [if_pos hu0]
    have:=@rk_lt o u z hu hu0
    have h1 : 0 < (rk o u.Rank : Int):=by unfold rk; omega
    omega
   ·rw [if_neg hu0]; omega
  rw [this]; unfold rk; omega
 have hle : ∀ u v : An,u ∈ gp o → v ∈ gp o → Om u v = true → kR u ≤ kR v:=fun u v hu hv hl=>by
  rw [Pe,(hrow u hu).1,(hrow v hv).1,Pn] at hl
  rcases hl with hl | ⟨_,hl | hl⟩ <;> omega
 have hkx : kR x = x.Rank:=by unfold kR; rw [if_neg (by omega)]
 have hasc':=hasc
 rw [e,List.pairwise_append,List.pairwise_cons] at hasc'
 obtain ⟨s1,⟨s2,_⟩,s3⟩:=hasc'
 have hb0 : b.countP (fun u=>decide (0 < u.Rank) && decide (u.Rank < x.Rank)) = 0:=by
  rw [List.countP_eq_zero]
  intro u hu
  have hum : u ∈ gp o:=by rw [e]; simp [hu]
  have:=hle x u hxm hum (s2 u hu)
  unfold kR at this
  have hxr6:=(hrow x hxm).2.2.2.2
  simp only [Bool.and_eq_true,decide_eq_true_eq,not_and]
  intro h1 h2
  rw [if_neg (by omega),if_neg (by omega)] at this
  omega
 rw [e,List.countP_append,List.countP_cons,hb0,if_neg (by simp)] at hcount
 have hal:=List.countP_le_length (p:=fun u : An=>decide (0 < u.Rank) && decide (u.Rank < x.Rank)) (l:=a)
 by_cases hc : a.countP (fun u=>decide (0 < u.Rank) && decide (u.Rank < x.Rank)) = a.length
 ·left; omega
 ·right
  have hex : ∃ v ∈ a,¬ ((decide (0 < v.Rank) && decide (v.Rank < x.Rank)) = true):=by
   rcases Classical.em (∃ v ∈ a,¬ ((decide (0 < v.Rank) && decide (v.Rank < x.Rank)) = true)) with h1 | h1
   ·exact h1
   ·exfalso
    refine hc (List.countP_eq_length.2 fun v hv=>?_)
    rcases Classical.em ((decide (0 < v.Rank) && decide (v.Rank < x.Rank)) = true) with h2 | h2
    ·exact h2
    ·exact (h1 ⟨v,hv,h2⟩).elim
  obtain ⟨v,hv,hvn⟩:=hex
  rcases List.eq_nil_or_concat a with rfl | ⟨d,y,rfl⟩
  ·cases hv
  ·simp only [List.concat_eq_append] at *
   refine ⟨d,y,rfl,?_⟩
   have hym : y ∈ gp o:=by rw [e]; simp
   have hvm : v ∈ gp o:=by rw [e]; exact List.mem_append_left _ hv
   have h1 : kR y ≤ kR x:=hle y x hym hxm (s3 y (by simp) x (by simp))
   have h2 : kR v ≤ kR y:=by
    rcases List.mem_append.1 hv with hv | hv
    ·rw [List.pairwise_append] at s1
     exact hle v y hvm hym (s1.2.2 v hv y (by simp))
    ·obtain rfl:=List.mem_singleton.1 hv; omega
   have h3 : kR x ≤ kR v:=by
    have hvr:=(hrow v hvm).2.2.2.2
    have hxr6:=(hrow x hxm).2.2.2.2
    simp only [Bool.and_eq_true,decide_eq_true_eq,not_and] at hvn
    rw [hkx]
    unfold kR
    split
    ·omega
    ·have:=hvn (by omega); omega
   have h4 : kR y = x.Rank:=by omega
   have hyr:=(hrow y hym).2.2.2.2
   have hxr6:=(hrow x hxm).2.2.2.2
   unfold kR at h4
   split at h4 <;> omega
structure LGd (Gs : List (List An)) : Prop where
 grp : ∀ g ∈ Gs,g ≠ [] ∧ ∃ race rel,race ∈ Um ∧ GGd race rel g
 diff : Gs.Pairwise fun g g'=>∀ x ∈ g,∀ y ∈ g',cB x.Race y.Race < 0
 len : Gs.flatten.length ≤ 15
theorem LGd.one {Gs : List (List An)} (h : LGd Gs) : ∀ g ∈ Gs,One g ∧ g.length ≤ 5:=fun g hg=>by
 obtain ⟨h1,race,rel,_,h2⟩:=h.grp g hg
 exact ⟨⟨h1,fun x hx y hy=>by rw [(h2.row x hx).1,(h2.row y hy).1]⟩,h2.len⟩
theorem LGd.ne {Gs : List (List An)} (h : LGd Gs) : Gs.Pairwise fun g g'=>∀ x ∈ g,∀ y ∈ g',x.Race ≠ y.Race :=
 h.diff.imp fun hd x hx y hy e=>by have:=hd x hx y hy; rw [e,Pn] at this; omega
theorem On : ∀ (Gs : List (List An)),(Gs.filter fun g=>!g.isEmpty).flatten = Gs.flatten
 | []=>rfl
 | g :: Gs=>by
  rw [List.filter_cons]
  cases g with
  | nil=>simp [On Gs]
  | cons a b=>simp [On Gs]
theorem CX {L : List Int} (hL : Uj L) {a : Int} (h0 : 0 ≤ a) (h1 : a ≤ 100000) : Dr a 48 (fun l=>∃ Gs,l = Gs.flatten ∧ LGd Gs) (Kj L a):=by
 unfold Kj
 simp only [Ia]
 obtain ⟨os,b,e,g1,g2,g3,g4⟩:=sc_l1 hL (fun x1 x2=>some (x1,x2)) [Jg,Mp,Mq] 0 [] a h0 (by simp; omega) (by simp)
 simp only [List.length_cons,List.length_nil] at g2 g3
 refine ⟨_,b,e,g1,by omega,(os.map fun p=>gp p.2).filter fun g=>!g.isEmpty,by rw [On]; simp,?_⟩
 match os,g3 with
 | [p1,p2,p3],_ =>
  have o1:=EQ (g4 0 _ p1 rfl rfl)
  have o2:=EQ (g4 1 _ p2 rfl rfl)
  have o3:=EQ (g4 2 _ p3 rfl rfl)
  refine ⟨fun g hg=>?_,?_,?_⟩
  ·obtain ⟨hm,hne⟩:=List.mem_filter.1 hg
   refine ⟨fun h=>by subst h; simp at hne,?_⟩
   simp only [List.map_cons,List.map_nil,List.mem_cons,List.not_mem_nil,or_false] at hm
   rcases hm with rfl | rfl | rfl
   ·exact ⟨Jg,p1.1,by simp [Um],o1⟩
   ·exact ⟨Mp,p2.1,by simp [Um],o2⟩
   ·exact ⟨Mq,p3.1,by simp [Um],o3⟩
  ·refine List.Pairwise.filter _ ?_
   have c1 : cB Jg Mp < 0:=by decide +kernel
   have c2 : cB Jg Mq < 0:=by decide +kernel
   have c3 : cB Mp Mq < 0:=by decide +kernel
   simp only [List.map_cons,List.map_nil,List.pairwise_cons,List.mem_cons,List.not_mem_nil,or_false]
   refine ⟨fun g hg x hx y hy=>?_,fun g hg x hx y hy=>?_,(fun g hg=>hg.elim),List.Pairwise.nil⟩
   ·rcases hg with rfl | rfl
    ·rw [(o1.row x hx).1,(o2.row y hy).1]; exact c1
    ·rw [(o1.row x hx).1,(o3.row y hy).1]; exact c2
   ·subst hg
    rw [(o2.row x hx).1,(o3.row y hy).1]; exact c3
  ·rw [On]
   have:=o1.len; have:=o2.len; have:=o3.len
   simp; omega
theorem LGd.row {Gs : List (List An)} (h : LGd Gs) : ∀ x ∈ Gs.flatten,x.Race ∈ Um ∧ x.Who ∈ Qr ∧ x.Club ∈ Rs ∧ 0 ≤ x.Rank ∧ x.Rank ≤ 6:=fun x hx=>by
 obtain ⟨g,hg,hx⟩:=List.mem_flatten.1 hx
 obtain ⟨_,race,rel,hr,h2⟩:=h.grp g hg
 obtain ⟨r1,_,r3,r4,r5⟩:=h2.row x hx
 exact ⟨by rw [r1]; exact hr,r3,r4,r5⟩
theorem LGd.asc {Gs : List (List An)} (h : LGd Gs) : Gs.flatten.Pairwise fun x y=>Om x y = true:=by
 rw [List.pairwise_flatten]
 refine ⟨fun g hg=>?_,h.diff.imp fun hd x hx y hy=>Pe.2 (.inl (hd x hx y hy))⟩
 obtain ⟨_,race,rel,_,h2⟩:=h.grp g hg
 exact h2.asc
theorem LGd.who {Gs : List (List An)} (h : LGd Gs) : Gs.flatten.Pairwise fun x y=>¬ (x.Race = y.Race ∧ x.Who = y.Who):=by
 rw [List.pairwise_flatten]
 refine ⟨fun g hg=>?_,h.ne.imp fun hd x hx y hy e=>hd x hx y hy e.1⟩
 obtain ⟨_,race,rel,_,h2⟩:=h.grp g hg
 exact h2.who.imp fun hne e=>hne e.2
theorem nth_set {α : Type} [Inhabited α] {l : List α} {i s : Int} {v : α} (hi0 : 0 ≤ i) (hi : i < l.length) (hs0 : 0 ≤ s) : nth (l.set i.toNat v) s = if s = i then v else nth l s:=by
 unfold nth
 rw [List.getD_eq_getElem?_getD,List.getD_eq_getElem?_getD,List.getElem?_set]
 by_cases h : s = i
 ·subst h; rw [if_pos rfl,if_pos rfl,if_pos (by omega)]; rfl
 ·rw [if_neg h,if_neg (by omega)]
end Go.Proofs.YtocmlionnalaaaaGreatDoor
