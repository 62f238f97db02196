/- The plain law of TimesBringPoints. No program stands here but its twins. -/
import Derived.Test.YthlanmcejeohmaaGreatDoorPPtsR
namespace Go.Proofs.YthlanmcejeohmaaGreatDoor
open Go
section
variable {α : Type}
theorem Wl {lt : α → α → Bool} (ht : ∀ x y z,lt x y = true → lt y z = true → lt x z = true) (x : α) : ∀ rp : List α,rp.Pairwise (fun a b=>lt b a = true) → (∀ y ∈ rp,lt x y = false → lt y x = true) → (Md lt x rp).Pairwise fun a b=>lt b a = true
 | [],_,_=>by simp [Md]
 | y :: r,h,hx=>by
  rw [List.pairwise_cons] at h
  unfold Md
  cases hxy : lt x y with
  | true =>
   rw [if_pos rfl]
   refine List.pairwise_cons.2 ⟨fun z hz=>?_,Wl ht x r h.2 fun z hz=>hx z (List.mem_cons_of_mem _ hz)⟩
   rcases (Pp lt x z r).1 hz with rfl | hz
   ·exact hxy
   ·exact h.1 z hz
  | false =>
   rw [if_neg (by simp)]
   have h1:=hx y (by simp) hxy
   refine List.pairwise_cons.2 ⟨fun z hz=>?_,List.pairwise_cons.2 h⟩
   rcases List.mem_cons.1 hz with rfl | hz
   ·exact h1
   ·exact ht z y x (h.1 z hz) h1
theorem Uz {lt : α → α → Bool} (ht : ∀ x y z,lt x y = true → lt y z = true → lt x z = true) : ∀ l rp : List α,rp.Pairwise (fun a b=>lt b a = true) → (∀ x ∈ l,∀ y ∈ rp,lt x y = false → lt y x = true) → l.Pairwise (fun a b=>lt b a = false → lt a b = true) →
  (Nr lt l rp).Pairwise fun a b=>lt b a = true
 | [],rp,h,_,_=>h
 | x :: l,rp,h,h1,h2=>by
  rw [List.pairwise_cons] at h2
  show (Nr lt l (Md lt x rp)).Pairwise _
  refine Uz ht l _ (Wl ht x rp h (h1 x (by simp))) (fun z hz y hy=>?_) h2.2
  rcases (Pp lt x y rp).1 hy with rfl | hy
  ·exact h2.1 z hz
  ·exact h1 z (List.mem_cons_of_mem _ hz) y hy
theorem CA {lt : α → α → Bool} (ht : ∀ x y z,lt x y = true → lt y z = true → lt x z = true) (l : List α) (h : l.Pairwise fun a b=>lt b a = false → lt a b = true) : (Kg lt l).Pairwise fun a b=>lt a b = true:=by
 unfold Kg
 rw [List.pairwise_reverse]
 exact Uz ht l [] List.Pairwise.nil (fun _ _ _ h=>by cases h) h
theorem Tk (lt : α → α → Bool) (l : List α) (z : α) : z ∈ Kg lt l ↔ z ∈ l:=by
 unfold Kg
 rw [List.mem_reverse,Wk]
 simp
theorem AJ {lt : α → α → Bool} (hi : ∀ x,lt x x = false) (ht : ∀ x y z,lt x y = true → lt y z = true → lt x z = true) : ∀ A B : List α,A.Pairwise (fun a b=>lt a b = true) → B.Pairwise (fun a b=>lt a b = true) → (∀ x,x ∈ A ↔ x ∈ B) → A = B
 | [],[],_,_,_=>rfl
 | [],b :: B,_,_,h=>by have:=(h b).2 (by simp); cases this
 | a :: A,[],_,_,h=>by have:=(h a).1 (by simp); cases this
 | a :: A,b :: B,hA,hB,h=>by
  rw [List.pairwise_cons] at hA hB
  have hab : a = b:=by
   rcases List.mem_cons.1 ((h a).1 (by simp)) with e | h1
   ·exact e
   ·rcases List.mem_cons.1 ((h b).2 (by simp)) with e | h2
    ·exact e.symm
    ·have:=ht a b a (hA.1 b h2) (hB.1 a h1)
     rw [hi] at this
     cases this
  subst hab
  have : A = B:=AJ hi ht A B hA.2 hB.2 fun x=>by
   have hx:=h x
   constructor
   ·intro hm
    rcases List.mem_cons.1 (hx.1 (List.mem_cons_of_mem _ hm)) with rfl | h3
    ·have:=hA.1 x hm; rw [hi] at this; cases this
    ·exact h3
   ·intro hm
    rcases List.mem_cons.1 (hx.2 (List.mem_cons_of_mem _ hm)) with rfl | h3
    ·have:=hB.1 x hm; rw [hi] at this; cases this
    ·exact h3
  rw [this]
theorem Vc (lt : α → α → Bool) : ∀ l rp : List α,(Nr lt l rp).length = l.length + rp.length
 | [],rp=>by simp [Nr]
 | x :: l,rp=>by
  show (Nr lt l (Md lt x rp)).length = _
  rw [Vc lt l,Qt]
  simp only [List.length_cons]
  omega
theorem Sb (lt : α → α → Bool) (l : List α) : (Kg lt l).length = l.length:=by
 unfold Kg
 rw [List.length_reverse,Vc]
 simp
theorem DN {lt : α → α → Bool} (hi : ∀ x,lt x x = false) (ht : ∀ x y z,lt x y = true → lt y z = true → lt x z = true) (A B : List α) (h : A.Pairwise fun a b=>lt b a = false → lt a b = true) (hB : B.Pairwise fun a b=>lt a b = true) (hm : ∀ x,x ∈ A ↔ x ∈ B) : Kg lt A = B :=
 AJ hi ht _ _ (CA ht A h) hB fun x=>by rw [Tk,hm]
theorem Vd {lt lt' : α → α → Bool} (x : α) : ∀ rp : List α,(∀ y ∈ rp,lt x y = lt' x y) → Md lt x rp = Md lt' x rp
 | [],_=>rfl
 | y :: r,h=>by
  unfold Md
  rw [h y (by simp),Vd x r fun z hz=>h z (List.mem_cons_of_mem _ hz)]
theorem Tw {lt lt' : α → α → Bool} : ∀ l rp : List α,(∀ x ∈ l,∀ y,y ∈ l ∨ y ∈ rp → lt x y = lt' x y) → Nr lt l rp = Nr lt' l rp
 | [],_,_=>rfl
 | x :: l,rp,h=>by
  show Nr lt l (Md lt x rp) = Nr lt' l (Md lt' x rp)
  rw [Vd x rp fun y hy=>h x (by simp) y (.inr hy)]
  refine Tw l _ fun z hz y hy=>h z (List.mem_cons_of_mem _ hz) y ?_
  rcases hy with hy | hy
  ·exact .inl (List.mem_cons_of_mem _ hy)
  ·rcases (Pp lt' x y rp).1 hy with rfl | hy
   ·exact .inl (by simp)
   ·exact .inr hy
theorem Yk {lt lt' : α → α → Bool} (l : List α) (h : ∀ x ∈ l,∀ y ∈ l,lt x y = lt' x y) : Kg lt l = Kg lt' l:=by
 unfold Kg
 rw [Tw l [] fun x hx y hy=>h x hx y (by rcases hy with hy | hy; exact hy; cases hy)]
theorem Wm (lt : α → α → Bool) (x : α) : ∀ rp : List α,(Md lt x rp).Perm (x :: rp)
 | []=>List.Perm.refl _
 | y :: r=>by
  unfold Md
  split
  ·exact ((Wm lt x r).cons y).trans (List.Perm.swap x y r)
  ·exact List.Perm.refl _
theorem Ve (lt : α → α → Bool) : ∀ l rp : List α,(Nr lt l rp).Perm (l ++ rp)
 | [],_=>List.Perm.refl _
 | x :: l,rp=>(Ve lt l (Md lt x rp)).trans (((Wm lt x rp).append_left l).trans List.perm_middle)
theorem Qc (lt : α → α → Bool) (l : List α) : (Kg lt l).Perm l:=by
 have h:=Ve lt l []
 rw [List.append_nil] at h
 exact (List.reverse_perm _).trans h
def nbF [DecidableEq α] (p : α) : List α → List α
 | []=>[]
 | y :: r=>if y = p then nbF y r else y :: nbF y r
def nb [DecidableEq α] : List α → List α
 | []=>[]
 | x :: r=>x :: nbF x r
variable {R : Type} [Inhabited α]
theorem Uk {l : List α} {k : Nat} {y : α} (h : l[k]? = some y) : nth l (k : Int) = y:=by simp [nth,List.getD,h]
theorem Xp [DecidableEq α] (k n : Nat) (j : List α → Int → Option R) (F : Nat → List α → Int → Int → Option R)
  (h : ∀ m x2 x3 x4,F (m + 1) x2 x3 x4 = if decide (x4 < (((n : Int).toNat - (k : Int).toNat : Nat) : Int)) then
   Chk (inB x4 ((n : Int).toNat - (k : Int).toNat)) (Chk (inB (W (x4 - 1)) ((n : Int).toNat - (k : Int).toNat)) (if !decide ((nth (cut x2 (k : Int) (n : Int)) x4) = (nth (cut x2 (k : Int) (n : Int)) (W (x4 - 1)))) then
    Chk (inB x4 ((n : Int).toNat - (k : Int).toNat)) (Chk (inB x3 x2.length) (F m (x2.set x3.toNat (nth (cut x2 (k : Int) (n : Int)) x4)) (W (x3 + 1)) (W (x4 + 1))))
   else F m x2 x3 (W (x4 + 1)))) else j x2 x3) (hn : n < 1000000000) :
  ∀ (rest kept mid : List α) (p : α) (m r : Nat),rest.length < m → (kept ++ mid ++ p :: rest).length = n → 1 ≤ r → kept.length + mid.length = k + r - 1 →
   ∃ mid',F m (kept ++ mid ++ p :: rest) (kept.length : Int) (r : Int) = j (kept ++ nbF p rest ++ mid') ((kept ++ nbF p rest).length : Int) ∧ (kept ++ nbF p rest ++ mid').length = n
 | [],kept,mid,p,m,r,h1,h2,h3,h4=>by
  obtain ⟨m,rfl⟩ : ∃ q,m = q + 1:=⟨m - 1,by omega⟩
  simp only [List.length_append,List.length_cons,List.length_nil] at h2
  rw [h,if_neg (by simp only [Int.toNat_natCast,decide_eq_true_eq]; omega)]
  exact ⟨mid ++ [p],by simp [nbF],by simp [nbF]; omega⟩
 | y :: rest,kept,mid,p,m,r,h1,h2,h3,h4=>by
  obtain ⟨m,rfl⟩ : ∃ q,m = q + 1:=⟨m - 1,by omega⟩
  have h2':=h2
  simp only [List.length_append,List.length_cons] at h1 h2'
  have hk : k ≤ n:=by omega
  have n1 : nth (cut (kept ++ mid ++ p :: y :: rest) (k : Int) (n : Int)) (r : Int) = y:=by
   have : (cut (kept ++ mid ++ p :: y :: rest) (k : Int) (n : Int))[r]? = some y:=by
    unfold cut
    simp only [Int.toNat_natCast]
    rw [List.take_of_length_le (by rw [h2]; omega),List.getElem?_drop,List.getElem?_append_right (by simp; omega)]
    have : k + r - (kept ++ mid).length = 1:=by simp; omega
    rw [this]
    rfl
   exact Uk this
  have n2 : nth (cut (kept ++ mid ++ p :: y :: rest) (k : Int) (n : Int)) (W ((r : Int) - 1)) = p:=by
   rw [Kc (by omega) (by omega)]
   have hr : (r : Int) - 1 = ((r - 1 : Nat) : Int):=by omega
   rw [hr]
   have : (cut (kept ++ mid ++ p :: y :: rest) (k : Int) (n : Int))[r - 1]? = some p:=by
    unfold cut
    simp only [Int.toNat_natCast]
    rw [List.take_of_length_le (by rw [h2]; omega),List.getElem?_drop,List.getElem?_append_right (by simp; omega)]
    have : k + (r - 1) - (kept ++ mid).length = 0:=by simp; omega
    rw [this]
    rfl
   exact Uk this
  have w1 : W ((r : Int) + 1) = ((r + 1 : Nat) : Int):=by rw [Kc (by omega) (by omega)]; rfl
  have w2 : W ((kept.length : Int) + 1) = ((kept.length + 1 : Nat) : Int):=by rw [Kc (by omega) (by omega)]; rfl
  rw [h,if_pos (by simp only [Int.toNat_natCast,decide_eq_true_eq]; omega),Ok (Im.2 (by simp only [Int.toNat_natCast]; omega)),Ok (Im.2 (by simp only [Int.toNat_natCast]; rw [Kc (by omega) (by omega)]; omega)),n1,n2,w1,w2]
  by_cases hy : y = p
  ·rw [if_neg (by simp [hy])]
   obtain ⟨mid',e,e'⟩:=Xp k n j F h hn rest kept (mid ++ [p]) y m (r + 1) (by omega) (by simp; omega) (by omega) (by simp; omega)
   refine ⟨mid',?_,?_⟩
   ·have e1 : kept ++ (mid ++ [p]) ++ y :: rest = kept ++ mid ++ p :: y :: rest:=by simp
    rw [e1] at e
    rw [e]
    simp [nbF,hy]
   ·rw [← e']
    simp [nbF,hy]
  ·rw [if_pos (by simp [hy]),Ok (Im.2 (by simp only [Int.toNat_natCast]; omega)),Ok (Im.2 (by rw [h2]; omega))]
   cases mid with
   | nil =>
    obtain ⟨mid',e,e'⟩:=Xp k n j F h hn rest (kept ++ [y]) [] y m (r + 1) (by omega) (by simp; omega) (by omega) (by simp at h4 ⊢; omega)
    refine ⟨mid',?_,?_⟩
    ·have e1 : (kept ++ [] ++ p :: y :: rest).set (kept.length : Int).toNat y = kept ++ [y] ++ [] ++ y :: rest:=by simp
     rw [e1]
     have e2 : ((kept.length + 1 : Nat) : Int) = ((kept ++ [y]).length : Int):=by simp
     rw [e2,e]
     simp [nbF,hy]
    ·rw [← e']
     simp [nbF,hy]
   | cons z mid0 =>
    obtain ⟨mid',e,e'⟩:=Xp k n j F h hn rest (kept ++ [y]) (mid0 ++ [p]) y m (r + 1) (by omega) (by simp at h2' ⊢; omega) (by omega) (by simp at h4 ⊢; omega)
    refine ⟨mid',?_,?_⟩
    ·have e1 : (kept ++ z :: mid0 ++ p :: y :: rest).set (kept.length : Int).toNat y = kept ++ [y] ++ (mid0 ++ [p]) ++ y :: rest:=by simp
     rw [e1]
     have e2 : ((kept.length + 1 : Nat) : Int) = ((kept ++ [y]).length : Int):=by simp
     rw [e2,e]
     simp [nbF,hy]
    ·rw [← e']
     simp [nbF,hy]
end
end Go.Proofs.YthlanmcejeohmaaGreatDoor
namespace Go.Proofs.YthlanmcejeohmaaGreatDoor
open Go
theorem Yl {κ ν : Type} [DecidableEq κ] (k k' : κ) (v : ν) : ∀ (m : List (κ × ν)) (i : Nat),(Ip (Fz m k v) k' i).map (·.2) = if k' = k then some v else (Ip m k' i).map (·.2)
 | [],i=>by
  by_cases h : k' = k <;> simp [Fz,Ip,h]
 | (q,u) :: m,i=>by
  by_cases h1 : k = q
  ·subst h1
   by_cases h2 : k' = k <;> simp [Fz,Ip,h2]
  ·by_cases h2 : k' = q
   ·subst h2
    simp [Fz,Ip,h1]
    exact fun h=>(h1 h.symm).elim
   ·simp only [Fz,h1,if_false,Ip,h2]
    exact Yl k k' v m (i + 1)
theorem Su {κ ν : Type} [DecidableEq κ] (m : List (κ × ν)) (k k' : κ) (v d : ν) : Gp (Fz m k v) k' d = if k' = k then v else Gp m k' d:=by
 unfold Gp Oo
 rw [Yl]
 split <;> simp
end Go.Proofs.YthlanmcejeohmaaGreatDoor
namespace Go.Proofs.YthlanmcejeohmaaGreatDoor
open Go
theorem AK : ∀ l : List UInt8,Lib.compareBytes l l = 0
 | []=>rfl
 | a :: l=>by
  rw [Lib.compareBytes,if_neg (by simp),if_neg (by simp)]; exact AK l
theorem AL : ∀ l m : List UInt8,Lib.compareBytes l m = 0 → l = m
 | [],[],_=>rfl
 | [],_ :: _,h=>by simp [Lib.compareBytes] at h
 | _ :: _,[],h=>by simp [Lib.compareBytes] at h
 | a :: l,b :: m,h=>by
  rw [Lib.compareBytes] at h
  split at h
  ·cases h
  ·split at h
   ·cases h
   ·rename_i h1 h2
    rw [UInt8.lt_iff_toNat_lt] at h1 h2
    rw [AL l m h,show a = b from UInt8.toNat_inj.1 (by omega)]
theorem AM : ∀ l m : List UInt8,Lib.compareBytes m l = - Lib.compareBytes l m
 | [],[]=>rfl
 | [],_ :: _=>rfl
 | _ :: _,[]=>rfl
 | a :: l,b :: m=>by
  rw [Lib.compareBytes,Lib.compareBytes,AM l m]
  simp only [UInt8.lt_iff_toNat_lt]
  by_cases h1 : a.toNat < b.toNat
  ·rw [if_neg (by omega),if_pos h1,if_pos h1]; rfl
  ·by_cases h2 : b.toNat < a.toNat
   ·rw [if_pos h2,if_neg h1,if_pos h2]
   ·rw [if_neg h2,if_neg h1,if_neg h1,if_neg h2]
theorem Ym : ∀ l m k : List UInt8,Lib.compareBytes l m < 0 → Lib.compareBytes m k < 0 → Lib.compareBytes l k < 0
 | l,m,[],_,h=>by cases m <;> simp [Lib.compareBytes] at h
 | [],m,c :: k,_,_=>by simp [Lib.compareBytes]
 | a :: l,[],c :: k,h,_=>by simp [Lib.compareBytes] at h
 | a :: l,b :: m,c :: k,h1,h2=>by
  rw [Lib.compareBytes] at h1 h2 ⊢
  simp only [UInt8.lt_iff_toNat_lt] at h1 h2 ⊢
  by_cases g1 : a.toNat < b.toNat
  ·by_cases g2 : c.toNat < b.toNat
   ·rw [if_neg (by omega),if_pos g2] at h2; cases h2
   ·rw [if_pos (by omega)]; decide
  ·by_cases g1' : b.toNat < a.toNat
   ·rw [if_neg g1,if_pos g1'] at h1; cases h1
   ·rw [if_neg g1,if_neg g1'] at h1
    by_cases g2 : b.toNat < c.toNat
    ·rw [if_pos (by omega)]; decide
    ·by_cases g3 : c.toNat < b.toNat
     ·rw [if_neg g2,if_pos g3] at h2; cases h2
     ·rw [if_neg g2,if_neg g3] at h2
      rw [if_neg (by omega),if_neg (by omega)]
      exact Ym l m k h1 h2
def cB (s t : ByteArray) : Int:=Lib.compareBytes s.data.toList t.data.toList
theorem AN (s : ByteArray) : cB s s = 0:=AK _
theorem AO {s t : ByteArray} (h : cB s t = 0) : s = t:=by
 have:=AL _ _ h
 cases s; cases t
 simpa using this
theorem cB_flip (s t : ByteArray) : cB t s = - cB s t:=AM _ _
theorem Yn {s t u : ByteArray} (h1 : cB s t < 0) (h2 : cB t u < 0) : cB s u < 0:=Ym _ _ _ h1 h2
def leB (s t : ByteArray) : Prop:=cB s t < 0 ∨ s = t
end Go.Proofs.YthlanmcejeohmaaGreatDoor
namespace Go.Proofs.YthlanmcejeohmaaGreatDoor
open Go
section
variable {L : List Int} (hL : Rs L)
include hL
end
theorem DO : ∀ n : Fin 13,(Ph (IntKind.wrap .u64 (n.val : Int))).isSome = true:=by decide +kernel
section
variable {L : List Int} (hL : Rs L)
include hL
end
section
variable {L : List Int} (hL : Rs L)
include hL
end
end Go.Proofs.YthlanmcejeohmaaGreatDoor
namespace Go.Proofs.YthlanmcejeohmaaGreatDoor
open Go
end Go.Proofs.YthlanmcejeohmaaGreatDoor
namespace Go.Proofs.YthlanmcejeohmaaGreatDoor
open Go
def val (f : Di) : Nat:=(f.Num * 60 / f.Den).toNat
theorem Rf {ν : Type} (k : ByteArray) (v : ν) : ∀ (m : List (ByteArray × ν)),(m.map (·.1)).Nodup → ((Fz m k v).map (·.1)).Nodup ∧ ∀ z,z ∈ (Fz m k v).map (·.1) ↔ z = k ∨ z ∈ m.map (·.1)
 | [],_=>by simp [Fz]
 | (k',v') :: m,h=>by
  rw [List.map_cons,List.nodup_cons] at h
  simp only [Fz]
  split
  ·rename_i e
   subst e
   refine ⟨by rw [List.map_cons,List.nodup_cons]; exact h,fun z=>?_⟩
   simp only [List.map_cons,List.mem_cons]
   constructor
   ·rintro (h | h)
    ·exact .inl h
    ·exact .inr (.inr h)
   ·rintro (h | h | h)
    ·exact .inl h
    ·exact .inl h
    ·exact .inr h
  ·rename_i hne
   obtain ⟨h1,h2⟩:=Rf k v m h.2
   rw [List.map_cons,List.nodup_cons]
   refine ⟨⟨fun hm=>?_,h1⟩,fun z=>?_⟩
   ·rcases (h2 _).1 hm with e | hm
    ·exact hne e.symm
    ·exact h.1 hm
   ·simp only [List.map_cons,List.mem_cons,h2 z]
    constructor
    ·rintro (h | h | h)
     ·exact .inr (.inl h)
     ·exact .inl h
     ·exact .inr (.inr h)
    ·rintro (h | h | h)
     ·exact .inr (.inl h)
     ·exact .inl h
     ·exact .inr (.inr h)
def ltG (x y : De) : Bool:=decide (Jg x y < 0)
theorem Vg (x y : De) : ltG x y = decide (cB x.Key y.Key < 0):=rfl
theorem CB (l : List De) (hl : l.length ≤ 12) : Eo l 0 (l.length : Int) = some (Kg ltG l):=by
 unfold Eo
 simp only [Qg]
 have hins : ∀ (k : List De → Option (List De)) (rp : List De) (x : De) (post : List De),((rp ++ x :: post).length : Int) = (l.length : Int) → (∀ y,y ∈ rp ∨ y = x ∨ y ∈ post → y ∈ (rp ++ x :: post)) →
   Dj 0 k (((rp.length : Int) - 0).toNat + 2) (rp.reverse ++ x :: post) (rp.length : Int) = k ((Md ltG x rp).reverse ++ post):=by
  intro k rp x post h1 _
  exact AI (fun x y k=>k (ltG x y)) ltG k (Dj 0 k) (fun _ _ _=>rfl) rp x post _ (by omega) (by simp at h1; omega) fun y _ k'=>rfl
 cases l with
 | nil=>rfl
 | cons x l =>
  have hw : W (0 + 1) = (([x] : List De).length : Int):=rfl
  rw [hw]
  exact Uj ltG (fun x=>some x) (fun k x i=>Dj 0 k ((i - 0).toNat + 2) x i) (Dp ((x :: l).length : Int) 0 fun x=>some x) ((x :: l).length : Int) (fun _ _ _=>rfl)
   (fun k rp x post h1 h2=>hins k rp x post h1 h2) l [x] _ (by simp only [List.length_cons,List.length_nil]; omega) (by simp only [List.length_cons,List.length_nil]; omega) (by simp only [List.length_cons,List.length_nil] at hl ⊢; omega)
theorem DP (l : List De) (hl : l.length ≤ 12) : Fw l = some (Kg ltG l):=by
 unfold Fw
 obtain ⟨r,hr⟩:=Option.isSome_iff_exists.1 (DO ⟨l.length,by omega⟩)
 simp only at hr
 rw [hr]
 simp only [Option.bind_some]
 unfold Fx
 rw [show (4611686018427387904 : Nat) = 4611686018427387903 + 1 from rfl,Ed,Kc (by omega) (by omega),if_pos (decide_eq_true (by omega)),CB l hl]
 rfl
theorem Rg {α : Type} [DecidableEq α] : ∀ (l l' : List α),l.Nodup → (∀ x ∈ l,x ∈ l') → l.length ≤ l'.length
 | [],_,_,_=>by simp
 | x :: l,l',h,hs=>by
  obtain ⟨h1,h2⟩:=List.nodup_cons.1 h
  have hx:=hs x List.mem_cons_self
  have ih:=Rg l (l'.erase x) h2 fun y hy=>(List.mem_erase_of_ne (fun e=>h1 (by rw [← e]; exact hy))).2 (hs y (List.mem_cons_of_mem _ hy))
  rw [List.length_erase_of_mem hx] at ih
  have:=List.length_pos_of_mem hx
  simp only [List.length_cons]; omega
def gm (p : ByteArray × Di) : De:=De.mk p.1 p.2
theorem AP (j : List De → Option (List De)) : ∀ (p : List (ByteArray × Di)) (x : List De),x.length + p.length ≤ 1000 → Ic j p x = j (x ++ p.map gm)
 | [],x,_=>by rw [Ic]; simp
 | y :: p,x,h=>by
  simp only [List.length_cons] at h
  rw [Ic,Hf (by unfold Rh; simp; omega),Option.bind_some,AP j p (x ++ [De.mk y.1 y.2]) (by simp; omega)]
  simp [gm]
end Go.Proofs.YthlanmcejeohmaaGreatDoor
namespace Go.Proofs.YthlanmcejeohmaaGreatDoor
open Go
theorem comp1 (s : List ByteArray) (hs : s.length ≤ 1000000) : ∀ (ys dn : List ByteArray) (p : ByteArray) (m : Nat),s = dn ++ p :: ys → ys.length < m → Et s (some s) m ((dn.length + 1 : Nat) : Int) = some (dn ++ p :: nbF p ys)
 | [],dn,p,m,e,h1=>by
  obtain ⟨m,rfl⟩ : ∃ q,m = q + 1:=⟨m - 1,by omega⟩
  have hlen : s.length = dn.length + 1:=by rw [e]; simp
  rw [Et,if_neg (by simp only [decide_eq_true_eq]; omega)]
  simp [nbF,← e]
 | y :: ys,dn,p,m,e,h1=>by
  obtain ⟨m,rfl⟩ : ∃ q,m = q + 1:=⟨m - 1,by omega⟩
  simp only [List.length_cons] at h1
  have hlen : s.length = dn.length + (ys.length + 1 + 1):=by rw [e]; simp
  have w1 : W (((dn.length + 1 : Nat) : Int) - 1) = (dn.length : Int):=by rw [Kc (by omega) (by omega)]; omega
  have n1 : nth s (dn.length : Int) = p:=Uk (by rw [e]; simp)
  have n2 : nth s ((dn.length + 1 : Nat) : Int) = y:=Uk (by rw [e,List.getElem?_append_right (by omega)]; simp)
  rw [Et,if_pos (by simp only [decide_eq_true_eq]; omega),w1,Ok (Im.2 (by omega)),Ok (Im.2 (by omega)),n1,n2]
  by_cases hy : y = p
  ·rw [if_pos (decide_eq_true hy),Ok (Lp.2 (by omega)),Qg]
   obtain ⟨mid,e1,e2⟩:=Xp (dn.length + 1) s.length _ (Fl s ((dn.length + 1 : Nat) : Int) (fun (x2 : List ByteArray) (x3 : Int)=>Chk (Pr x3 (x2.length : Int) x2.length) (Chk (Pr 0 x3 (clr x2 x3 (x2.length : Int) Ec).length) (some (cut (clr x2 x3 (x2.length : Int) Ec) (0 : Int) x3)))))
    (fun _ _ _ _=>rfl) (by omega) ys (dn ++ [p]) [] y (((((s.length : Int).toNat - ((dn.length + 1 : Nat) : Int).toNat : Nat) : Int) - 1).toNat + 2) 1 (by simp only [Int.toNat_natCast]; omega) (by simp; omega) (by omega) (by simp)
   have e3 : dn ++ [p] ++ [] ++ y :: ys = s:=by rw [e]; simp
   have e4 : ((dn ++ [p]).length : Int) = ((dn.length + 1 : Nat) : Int):=by simp
   rw [e3,e4] at e1
   refine e1.trans ?_
   obtain ⟨c1,c2,c3⟩:=cut_clr (dn ++ [p] ++ nbF y ys) mid Ec
   rw [Ok c1,Ok c2,c3]
   simp [nbF,hy]
  ·rw [if_neg (by simpa using hy)]
   have w2 : W (((dn.length + 1 : Nat) : Int) + 1) = (((dn ++ [p]).length + 1 : Nat) : Int):=by rw [Kc (by omega) (by omega)]; simp
   rw [w2,comp1 s hs ys (dn ++ [p]) y m (by rw [e]; simp) (by omega)]
   simp [nbF,hy]
theorem Zc (s : List ByteArray) (hs : s.length ≤ 1000000) : Jc s = some (nb s):=by
 unfold Jc
 cases s with
 | nil=>rfl
 | cons p ys =>
  by_cases h : ((p :: ys).length : Int) < 2
  ·have : ys = []:=List.eq_nil_of_length_eq_zero (by simp at h; omega)
   subst this
   rfl
  ·rw [if_neg (by simpa using h),Qg]
   have:=comp1 (p :: ys) hs ys [] p ((((p :: ys).length : Int) - 1).toNat + 2) rfl (by simp)
   simpa [nb] using this
theorem Xq {α : Type} [DecidableEq α] : ∀ (r : List α) (p x : α),x ∈ nbF p r → x ∈ r
 | [],_,_,h=>by cases h
 | y :: r,p,x,h=>by
  unfold nbF at h
  split at h
  ·exact List.mem_cons_of_mem _ (Xq r y x h)
  ·rcases List.mem_cons.1 h with rfl | h
   ·simp
   ·exact List.mem_cons_of_mem _ (Xq r y x h)
theorem AQ {α : Type} [DecidableEq α] : ∀ (r : List α) (p x : α),x ∈ r → x = p ∨ x ∈ nbF p r
 | [],_,_,h=>by cases h
 | y :: r,p,x,h=>by
  unfold nbF
  rcases List.mem_cons.1 h with rfl | h
  ·split
   ·rename_i e; exact .inl e
   ·exact .inr (by simp)
  ·rcases AQ r y x h with rfl | h2
   ·split
    ·rename_i e; exact .inl e
    ·exact .inr (by simp)
   ·split
    ·exact .inr h2
    ·exact .inr (List.mem_cons_of_mem _ h2)
theorem DQ : ∀ (r : List ByteArray) (p : ByteArray),(p :: r).Pairwise leB → (p :: nbF p r).Pairwise fun a b=>cB a b < 0
 | [],p,_=>by simp [nbF]
 | y :: r,p,h=>by
  rw [List.pairwise_cons] at h
  have hy:=h.1 y (by simp)
  have ih:=DQ r y h.2
  unfold nbF
  by_cases e : y = p
  ·rw [if_pos e]
   rw [e] at ih ⊢
   exact ih
  ·rw [if_neg e]
   have h1 : cB p y < 0:=by
    rcases hy with h | h
    ·exact h
    ·exact absurd h.symm e
   refine List.pairwise_cons.2 ⟨fun z hz=>?_,ih⟩
   rcases List.mem_cons.1 hz with rfl | hz
   ·exact h1
   ·rw [List.pairwise_cons] at ih
    exact Yn h1 (ih.1 z hz)
theorem cb_le : ∀ (a b : List UInt8),a ≤ b → Lib.compareBytes a b ≤ 0
 | [],[],_=>by simp [Lib.compareBytes]
 | [],_ :: _,_=>by simp [Lib.compareBytes]
 | x :: a,[],h=>by
  exact absurd h (by simp)
 | x :: a,y :: b,h=>by
  rw [Lib.compareBytes]
  rw [List.cons_le_cons_iff] at h
  rcases h with h | ⟨rfl,h⟩
  ·rw [if_pos h]; omega
  ·rw [if_neg (UInt8.lt_irrefl _),if_neg (UInt8.lt_irrefl _)]
   exact cb_le a b h
theorem Sv (l : List ByteArray) : (Jh l).Pairwise leB ∧ ∀ x,x ∈ Jh l ↔ x ∈ l:=by
 unfold Jh
 constructor
 ·rw [List.pairwise_map]
  refine (List.pairwise_mergeSort (le:=fun x y=>decide (x ≤ y)) (fun a b c h1 h2=>by
   rw [decide_eq_true_eq] at *; exact List.le_trans h1 h2) (fun a b=>by
   rcases List.le_total a b with h | h <;> simp [h]) _).imp ?_
  intro a b h
  have:=cb_le a b (of_decide_eq_true h)
  have e : cB (⟨a.toArray⟩ : ByteArray) ⟨b.toArray⟩ = Lib.compareBytes a b:=rfl
  rcases Int.lt_or_eq_of_le this with h1 | h1
  ·exact .inl (by rw [e]; exact h1)
  ·exact .inr (AO (by rw [e]; exact h1))
 ·intro x
  rw [List.mem_map]
  constructor
  ·rintro ⟨a,ha,rfl⟩
   rw [List.mem_mergeSort,List.mem_map] at ha
   obtain ⟨y,hy,rfl⟩:=ha
   exact hy
  ·intro hx
   exact ⟨x.data.toList,by rw [List.mem_mergeSort]; exact List.mem_map.2 ⟨x,hx,rfl⟩,rfl⟩
def Pa (l : List ByteArray) : List ByteArray:=nb (Jh l)
theorem AR (l : List ByteArray) : (Pa l).Pairwise (fun a b=>cB a b < 0):=by
 unfold Pa
 have h:=(Sv l).1
 cases e : Jh l with
 | nil=>exact List.Pairwise.nil
 | cons p r=>rw [e] at h; exact DQ r p h
theorem Vh (l : List ByteArray) (x : ByteArray) : x ∈ Pa l ↔ x ∈ l:=by
 rw [← (Sv l).2 x]
 unfold Pa
 cases e : Jh l with
 | nil=>exact Iff.rfl
 | cons p r =>
  show x ∈ p :: nbF p r ↔ x ∈ p :: r
  constructor
  ·intro h
   rcases List.mem_cons.1 h with rfl | h
   ·simp
   ·exact List.mem_cons_of_mem _ (Xq r p x h)
  ·intro h
   rcases List.mem_cons.1 h with rfl | h
   ·simp
   ·rcases AQ r p x h with rfl | h
    ·simp
    ·exact List.mem_cons_of_mem _ h
theorem Xr {ν : Type} (d : ν) : ∀ (m : List (ByteArray × ν)),(m.map (·.1)).Nodup → ∀ k v,(k,v) ∈ m ↔ k ∈ m.map (·.1) ∧ Gp m k d = v
 | [],_,k,v=>by simp
 | p :: m,h,k,v=>by
  rw [List.map_cons,List.nodup_cons] at h
  have idx : ∀ (m : List (ByteArray × ν)) (i j : Nat),(Ip m k i).map (·.2) = (Ip m k j).map (·.2):=by
   intro m
   induction m with
   | nil=>intros; rfl
   | cons q m ih =>
    intro i j
    obtain ⟨a,b⟩:=q
    unfold Ip
    split
    ·rfl
    ·exact ih _ _
  obtain ⟨a,b⟩:=p
  have hg : Gp ((a,b) :: m) k d = if k = a then b else Gp m k d:=by
   unfold Gp Oo
   rw [Ip]
   split
   ·rfl
   ·rw [idx m (0 + 1) 0]
  rw [hg]
  have ih:=Xr d m h.2 k v
  by_cases e : k = a
  ·subst e
   rw [if_pos rfl]
   constructor
   ·intro hm
    rcases List.mem_cons.1 hm with hm | hm
    ·injection hm with _ e2; exact ⟨by simp,e2.symm⟩
    ·exact (h.1 (List.mem_map.2 ⟨_,hm,rfl⟩)).elim
   ·rintro ⟨_,rfl⟩; simp
  ·rw [if_neg e]
   constructor
   ·intro hm
    rcases List.mem_cons.1 hm with hm | hm
    ·injection hm with e1 _; exact (e e1).elim
    ·exact ⟨List.mem_cons_of_mem _ (ih.1 hm).1,(ih.1 hm).2⟩
   ·rintro ⟨h1,h2⟩
    rcases List.mem_cons.1 h1 with h1 | h1
    ·exact (e h1).elim
    ·exact List.mem_cons_of_mem _ (ih.2 ⟨h1,h2⟩)
theorem Zd {m : List (ByteArray × Di)} {K : List ByteArray} (f : ByteArray → Di) (hnd : (m.map (·.1)).Nodup) (hl : m.length ≤ 12) (hK : K.Pairwise (fun a b=>cB a b < 0)) (hmem : ∀ k v,(k,v) ∈ m ↔ k ∈ K ∧ v = f k) :
  Lt m = some (K.map fun k=>De.mk k (f k)):=by
 have hlt : ∀ x y z : De,ltG x y = true → ltG y z = true → ltG x z = true:=fun x y z h1 h2=>by
  rw [Vg,decide_eq_true_eq] at *; exact Yn h1 h2
 have hirr : ∀ x : De,ltG x x = false:=fun x=>by rw [Vg,AN]; rfl
 have htot : ∀ l : List De,(l.map (·.Key)).Nodup → l.Pairwise fun a b=>ltG b a = false → ltG a b = true:=fun l hl=>by
  refine (List.pairwise_map.1 hl).imp fun {a b} hne hb=>?_
  rw [Vg,decide_eq_false_iff_not] at hb
  rw [Vg,decide_eq_true_eq]
  have h0 : cB a.Key b.Key ≠ 0:=fun e=>hne (AO e)
  have:=cB_flip a.Key b.Key
  omega
 have hkeys : ∀ p : List (ByteArray × Di),(p.map gm).map (·.Key) = p.map (·.1):=fun p=>by rw [List.map_map]; rfl
 unfold Lt
 simp only [Hw]
 refine Ud fun p hp=>?_
 have hpl : p.length = m.length:=hp.length_eq
 rw [AP _ p [] (by simp; omega),List.nil_append,DP _ (by rw [List.length_map]; omega),Option.bind_some]
 have hnd' : ((p.map gm).map (·.Key)).Nodup:=by rw [hkeys,(hp.map (·.1)).nodup_iff]; exact hnd
 rw [DN hirr hlt (p.map gm) (K.map fun k=>De.mk k (f k)) (htot _ hnd') (by
  rw [List.pairwise_map]
  exact hK.imp fun h=>by rw [Vg]; exact decide_eq_true h) fun x=>by
  rw [(hp.map gm).mem_iff,List.mem_map,List.mem_map]
  constructor
  ·rintro ⟨⟨k,v⟩,h,rfl⟩
   obtain ⟨h1,rfl⟩:=(hmem k v).1 h
   exact ⟨k,h1,rfl⟩
  ·rintro ⟨k,h,rfl⟩
   exact ⟨(k,f k),(hmem k _).2 ⟨h,rfl⟩,rfl⟩]
end Go.Proofs.YthlanmcejeohmaaGreatDoor
namespace Go.Proofs.YthlanmcejeohmaaGreatDoor
open Go
section weak
variable {α : Type} {lt : α → α → Bool}
theorem Wn (ha : ∀ x y,lt x y = true → lt y x = false) (hn : ∀ x y z,lt x y = false → lt y z = false → lt x z = false) (x : α) : ∀ rp : List α,rp.Pairwise (fun a b=>lt a b = false) → (Md lt x rp).Pairwise fun a b=>lt a b = false
 | [],_=>by simp [Md]
 | y :: r,h=>by
  rw [List.pairwise_cons] at h
  unfold Md
  cases hxy : lt x y with
  | true =>
   rw [if_pos rfl]
   refine List.pairwise_cons.2 ⟨fun z hz=>?_,Wn ha hn x r h.2⟩
   rcases (Pp lt x z r).1 hz with rfl | hz
   ·exact ha _ _ hxy
   ·exact h.1 z hz
  | false =>
   rw [if_neg (by simp)]
   refine List.pairwise_cons.2 ⟨fun z hz=>?_,List.pairwise_cons.2 h⟩
   rcases List.mem_cons.1 hz with rfl | hz
   ·exact hxy
   ·exact hn _ _ _ hxy (h.1 z hz)
theorem Vi (ha : ∀ x y,lt x y = true → lt y x = false) (hn : ∀ x y z,lt x y = false → lt y z = false → lt x z = false) : ∀ l rp : List α,rp.Pairwise (fun a b=>lt a b = false) → (Nr lt l rp).Pairwise fun a b=>lt a b = false
 | [],_,h=>h
 | x :: l,rp,h=>Vi ha hn l _ (Wn ha hn x rp h)
theorem Vj (ha : ∀ x y,lt x y = true → lt y x = false) (hn : ∀ x y z,lt x y = false → lt y z = false → lt x z = false) (l : List α) : (Kg lt l).Pairwise fun a b=>lt b a = false:=by
 unfold Kg
 rw [List.pairwise_reverse]
 exact Vi ha hn l [] List.Pairwise.nil
end weak
def gtI (x y : Int) : Bool:=decide (y < x)
theorem Qu (l : List Int) : (Kg gtI l).Pairwise fun a b=>b ≤ a :=
 (Vj (lt:=gtI) (fun x y h=>by unfold gtI at *; simp at *; omega) (fun x y z h h'=>by unfold gtI at *; simp at *; omega) l).imp fun h=>by unfold gtI at h; simpa using h
theorem Wo {A B : List Int} (hA : A.Pairwise fun a b=>b ≤ a) (hB : B.Pairwise fun a b=>b ≤ a) (h : A.Perm B) : A = B :=
 List.Perm.eq_of_pairwise (le:=fun a b : Int=>b ≤ a) (fun a b _ _ h1 h2=>by omega) hA hB h
theorem Yo {l l' : List Int} (h : l.Perm l') : Kg gtI l = Kg gtI l' :=
 Wo (Qu l) (Qu l') ((Qc gtI l).trans (h.trans (Qc gtI l').symm))
def Sw (many : Int) (l : List Int) : Int:=((Kg gtI l).take many.toNat).sum
theorem Wp (many : Int) {l l' : List Int} (h : l.Perm l') : Sw many l = Sw many l':=by unfold Sw; rw [Yo h]
def Ol (v : Int) : Prop:=0 ≤ v ∧ v ≤ 1000000000
theorem AS (r : List Int) {many : Int} (h1 : 1 ≤ many) : Pr 0 (On many (r.length : Int)) r.length = true ∧ cut r 0 (On many (r.length : Int)) = r.take many.toNat:=by
 unfold On
 split
 ·rename_i h
  refine ⟨Lp.2 (by omega),?_⟩
  unfold cut
  rw [show (0 : Int).toNat = 0 from rfl,List.drop_zero,Int.toNat_natCast,List.take_length,List.take_of_length_le (by omega)]
 ·rename_i h
  refine ⟨Lp.2 (by omega),?_⟩
  unfold cut
  rw [show (0 : Int).toNat = 0 from rfl,List.drop_zero]
def ltD (x y : Int) : Bool:=decide (Hv x y < 0)
theorem CC (l : List Int) (hl : l.length ≤ 12) : Ep l 0 (l.length : Int) = some (Kg ltD l):=by
 unfold Ep
 simp only [Qg]
 have hins : ∀ (k : List Int → Option (List Int)) (rp : List Int) (x : Int) (post : List Int),((rp ++ x :: post).length : Int) = (l.length : Int) → (∀ y,y ∈ rp ∨ y = x ∨ y ∈ post → y ∈ (rp ++ x :: post)) →
   Dk 0 k (((rp.length : Int) - 0).toNat + 2) (rp.reverse ++ x :: post) (rp.length : Int) = k ((Md ltD x rp).reverse ++ post):=by
  intro k rp x post h1 _
  exact AI (fun x y k=>k (ltD x y)) ltD k (Dk 0 k) (fun _ _ _=>rfl) rp x post _ (by omega) (by simp at h1; omega) fun y _ k'=>rfl
 cases l with
 | nil=>rfl
 | cons x l =>
  have hw : W (0 + 1) = (([x] : List Int).length : Int):=rfl
  rw [hw]
  exact Uj ltD (fun x=>some x) (fun k x i=>Dk 0 k ((i - 0).toNat + 2) x i) (Dq ((x :: l).length : Int) 0 fun x=>some x) ((x :: l).length : Int) (fun _ _ _=>rfl)
   (fun k rp x post h1 h2=>hins k rp x post h1 h2) l [x] _ (by simp only [List.length_cons,List.length_nil]; omega) (by simp only [List.length_cons,List.length_nil]; omega) (by simp only [List.length_cons,List.length_nil] at hl ⊢; omega)
theorem DR (l : List Int) (hl : l.length ≤ 12) (hv : ∀ v ∈ l,Ol v) : Fb l = some (Kg gtI l):=by
 have he : Kg ltD l = Kg gtI l:=Yk l fun x hx y hy=>by
  have h1:=hv x hx
  have h2:=hv y hy
  unfold Ol at h1 h2
  unfold ltD gtI Hv
  rw [Kc (by omega) (by omega)]
  rcases Int.lt_or_le y x with h | h
  ·rw [decide_eq_true h,decide_eq_true (by omega)]
  ·rw [decide_eq_false (by omega),decide_eq_false (by omega)]
 unfold Fb
 obtain ⟨r,hr⟩:=Option.isSome_iff_exists.1 (DO ⟨l.length,by omega⟩)
 simp only at hr
 rw [hr]
 simp only [Option.bind_some]
 unfold Fy
 rw [show (4611686018427387904 : Nat) = 4611686018427387903 + 1 from rfl,Ee,Kc (by omega) (by omega),if_pos (decide_eq_true (by omega)),CC l hl,he]
 rfl
theorem DS (j : Int → Option (List (ByteArray × Di))) : ∀ (ys : List Int) (i : Nat) (x : Int),(∀ v ∈ ys,Ol v) → 0 ≤ x → x + 1000000000 * (ys.length : Int) ≤ 1000000000000000 → Gl j ys i x = j (x + ys.sum)
 | [],i,x,_,_,_=>by rw [Gl]; simp
 | y :: ys,i,x,h,h0,h1=>by
  have hy:=h y (by simp)
  unfold Ol at hy
  simp only [List.length_cons] at h1
  rw [Gl,Kc (by omega) (by omega),DS j ys (i + 1) (x + y) (fun v hv=>h v (by simp [hv])) (by omega) (by omega),List.sum_cons]
  congr 1
  omega
theorem round3 (many : Int) (h1 : 1 ≤ many) (x : List (ByteArray × Di)) (k : ByteArray) (l : List Int) (hl : l.length ≤ 12) (hv : ∀ v ∈ l,Ol v) :
  (Option.bind (Fb l) (fun r=>Chk (Pr 0 (On many (r.length : Int)) r.length) (Hc (fun (s : Int)=>some (Fz x k (Di.mk s 1))) (fun j5=>Gl j5 (cut r 0 (On many (r.length : Int))) 0 0)))) = some (Fz x k (Di.mk (Sw many l) 1)):=by
 obtain ⟨c1,c2⟩:=AS (Kg gtI l) h1
 have hlen:=Sb gtI l
 rw [DR l hl hv,Option.bind_some,Ok c1,c2,Qg,DS _ _ 0 0 (fun v hv'=>hv v ((Tk gtI l v).1 (List.mem_of_mem_take hv'))) (by omega) (by rw [List.length_take]; omega)]
 simp [Sw]
theorem AU (many : Int) (h1 : 1 ≤ many) (j : List (ByteArray × Di) → Option (List De × Int)) : ∀ (p : List (ByteArray × List Int)) (x : List (ByteArray × Di)),(∀ e ∈ p,e.2.length ≤ 12 ∧ ∀ v ∈ e.2,Ol v) →
  Gm many j p x = j (p.foldl (fun x e=>Fz x e.1 (Di.mk (Sw many e.2) 1)) x)
 | [],x,_=>by rw [Gm]; rfl
 | e :: p,x,h=>by
  rw [Gm,round3 many h1 x e.1 e.2 (h e (by simp)).1 (h e (by simp)).2,Option.bind_some,AU many h1 j p _ fun z hz=>h z (by simp [hz])]
  rfl
theorem Wq (F : List Int → Di) : ∀ (p : List (ByteArray × List Int)) (x : List (ByteArray × Di)),(x.map (·.1)).Nodup → (p.map (·.1)).Nodup → 
  ((p.foldl (fun x e=>Fz x e.1 (F e.2)) x).map (·.1)).Nodup ∧ (∀ k,k ∈ (p.foldl (fun x e=>Fz x e.1 (F e.2)) x).map (·.1) ↔ k ∈ p.map (·.1) ∨ k ∈ x.map (·.1)) ∧
  (∀ e ∈ p,Gp (p.foldl (fun x e=>Fz x e.1 (F e.2)) x) e.1 (Di.mk 0 0) = F e.2) ∧ ∀ k,k ∉ p.map (·.1) → Gp (p.foldl (fun x e=>Fz x e.1 (F e.2)) x) k (Di.mk 0 0) = Gp x k (Di.mk 0 0)
 | [],x,hx,_=>⟨hx,fun k=>(by simp),fun e he=>(by cases he),fun k _=>rfl⟩
 | e :: p,x,hx,hp=>by
  rw [List.map_cons,List.nodup_cons] at hp
  obtain ⟨a1,a2⟩:=Rf e.1 (F e.2) x hx
  obtain ⟨b1,b2,b3,b4⟩:=Wq F p (Fz x e.1 (F e.2)) a1 hp.2
  rw [List.foldl_cons]
  refine ⟨b1,fun k=>?_,fun z hz=>?_,fun k hk=>?_⟩
  ·rw [b2 k,a2 k,List.map_cons,List.mem_cons]
   constructor
   ·rintro (h | h | h)
    ·exact .inl (.inr h)
    ·exact .inl (.inl h)
    ·exact .inr h
   ·rintro ((h | h) | h)
    ·exact .inr (.inl h)
    ·exact .inl h
    ·exact .inr (.inr h)
  ·rcases List.mem_cons.1 hz with rfl | hz
   ·rw [b4 _ hp.1,Su,if_pos rfl]
   ·exact b3 z hz
  ·rw [List.map_cons,List.mem_cons] at hk
   rw [b4 k fun h=>hk (.inr h),Su,if_neg fun h=>hk (.inl h)]
def Jv (w : ByteArray) : List (Df × Int) → List (ByteArray × Int)
 | []=>[]
 | e :: m=>if e.1.who_ = w then (e.1.race_,e.2) :: Jv w m else Jv w m
theorem Wr (race who w : ByteArray) (v : Int) : ∀ m : List (Df × Int),Jv w (Fz m (Df.mk race who) v) = if who = w then Fz (Jv w m) race v else Jv w m
 | []=>by
  by_cases h : who = w <;> simp [Fz,Jv,h]
 | ((Df.mk a b),u) :: m=>by
  have ih:=Wr race who w v m
  by_cases hk : Df.mk race who = Df.mk a b
  ·rw [Fz,if_pos hk]
   injection hk with h1 h2
   subst h1 h2
   by_cases h : who = w <;> simp [Fz,Jv,h]
  ·rw [Fz,if_neg hk]
   by_cases h : who = w
   ·rw [if_pos h] at ih ⊢
    by_cases h2 : b = w
    ·have h3 : race ≠ a:=fun e=>hk (by rw [e,h,h2])
     rw [Jv,if_pos h2,ih,Jv,if_pos h2,Fz,if_neg h3]
    ·rw [Jv,if_neg h2,ih,Jv,if_neg h2]
   ·by_cases h2 : b = w
    ·simp only [Jv,h2,if_true,ih,h,if_false]
    ·simp only [Jv,h2,if_false,ih,h]
theorem Ws (race w : ByteArray) : ∀ m : List (Df × Int),Oo m (Df.mk race w) = Oo (Jv w m) race
 | []=>rfl
 | ((Df.mk a b),u) :: m=>by
  have ih:=Ws race w m
  have c1 : ∀ (κ : Type) [DecidableEq κ] (q : κ) (u : Int) (m : List (κ × Int)) (key : κ),Oo ((q,u) :: m) key = if key = q then some u else Oo m key:=by
   intro κ _ q u m key
   have idx : ∀ (m : List (κ × Int)) (i j : Nat),(Ip m key i).map (·.2) = (Ip m key j).map (·.2):=by
    intro m
    induction m with
    | nil=>intros; rfl
    | cons q m ih=>intro i j; obtain ⟨a,b⟩:=q; unfold Ip; split; rfl; exact ih _ _
   unfold Oo
   rw [Ip]
   split
   ·rfl
   ·rw [idx m (0 + 1) 0]
  rw [c1]
  by_cases h2 : b = w
  ·rw [Jv,if_pos h2,c1,ih]
   subst h2
   by_cases h : race = a
   ·rw [if_pos h,if_pos (by rw [h])]
   ·rw [if_neg h,if_neg fun e=>h (by injection e)]
  ·rw [Jv,if_neg h2,ih,if_neg fun e=>h2 (by injection e with _ e2; exact e2.symm)]
theorem Ze (w : ByteArray) {p m : List (Df × Int)} (h : p.Perm m) : (Jv w p).Perm (Jv w m):=by
 have e : ∀ m : List (Df × Int),Jv w m = (m.filter fun e=>decide (e.1.who_ = w)).map fun e=>(e.1.race_,e.2):=by
  intro m
  induction m with
  | nil=>rfl
  | cons x m ih=>rw [Jv,ih]; by_cases h : x.1.who_ = w <;> simp [h]
 rw [e,e]
 exact (h.filter _).map _
theorem Tl {w : ByteArray} {x : ByteArray × Int} : ∀ {m : List (Df × Int)},x ∈ Jv w m → (Df.mk x.1 w,x.2) ∈ m
 | [],h=>by cases h
 | e :: m,h=>by
  rw [Jv] at h
  split at h
  ·rename_i hw
   rcases List.mem_cons.1 h with rfl | h
   ·subst hw; exact List.mem_cons_self ..
   ·exact List.mem_cons_of_mem _ (Tl h)
  ·exact List.mem_cons_of_mem _ (Tl h)
theorem Wt (w : ByteArray) : ∀ m : List (Df × Int),(Jv w m).length ≤ m.length
 | []=>Nat.le_refl _
 | e :: m=>by
  have:=Wt w m
  rw [Jv]
  split <;> simp only [List.length_cons] <;> omega
section fold
variable (P : Dm → Bool) (V : Dm → Int)
def Om (w : ByteArray) : List Dm → List (ByteArray × Int) → List (ByteArray × Int)
 | [],m=>m
 | y :: ys,m=>Om w ys (if y.Who = w ∧ P y = true then Fz m y.Race (Rt (Gp m y.Race 0) (V y)) else m)
theorem Vn {κ ν : Type} [DecidableEq κ] (k : κ) (v : ν) : ∀ m : List (κ × ν),(Fz m k v).length ≤ m.length + 1
 | []=>by simp [Fz]
 | (q,u) :: m=>by
  have:=Vn k v m
  rw [Fz]
  split <;> simp only [List.length_cons] <;> omega
theorem Sy {κ ν : Type} [DecidableEq κ] (k : κ) (v : ν) (e : κ × ν) : ∀ m : List (κ × ν),e ∈ Fz m k v → e = (k,v) ∨ e ∈ m
 | [],h=>by simpa [Fz] using h
 | (q,u) :: m,h=>by
  rw [Fz] at h
  split at h
  ·rcases List.mem_cons.1 h with h | h
   ·exact .inl h
   ·exact .inr (List.mem_cons_of_mem _ h)
  ·rcases List.mem_cons.1 h with h | h
   ·exact .inr (by rw [h]; exact List.mem_cons_self ..)
   ·rcases Sy k v e m h with h | h
    ·exact .inl h
    ·exact .inr (List.mem_cons_of_mem _ h)
theorem Yp {κ : Type} [DecidableEq κ] (Q : Int → Prop) (h0 : Q 0) (k : κ) (m : List (κ × Int)) (h : ∀ e ∈ m,Q e.2) : Q (Gp m k 0):=by
 have hf : ∀ (m : List (κ × Int)) (i : Nat),(∀ e ∈ m,Q e.2) → Q (((Ip m k i).map (·.2)).getD 0):=by
  intro m
  induction m with
  | nil=>intro i _; exact h0
  | cons q m ih =>
   intro i hq
   obtain ⟨a,b⟩:=q
   rw [Ip]
   split
   ·exact hq (a,b) (List.mem_cons_self ..)
   ·exact ih _ fun e he=>hq e (List.mem_cons_of_mem _ he)
 exact hf m 0 h
theorem Yq {a b : Int} (ha : Ol a) (hb : Ol b) : Ol (Rt a b):=by
 unfold Rt; split <;> assumption
structure Inv1 (x1 : List (Df × Int)) (x2 : List (ByteArray × List Int)) : Prop where
 val : ∀ e ∈ x1,Ol e.2
 who : ∀ e ∈ x1,e.1.who_ ∈ x2.map (·.1)
 nd : (x2.map (·.1)).Nodup
 nil : ∀ k,Gp x2 k [] = []
theorem Xs (l : List Dw) (j : List (Df × Int) → List (ByteArray × List Int) → Option (List De × Int)) (hP : ∀ y,P y = ((decide (0 < Dn l y.Race)) && decide (0 < y.Time))) : ∀ (ys : List Dm) (i : Nat) (x1 : List (Df × Int)) (x2 : List (ByteArray × List Int)),
  (∀ y ∈ ys,P y = true → Hq (Dn l y.Race) y.Time = some (V y) ∧ Ol (V y)) → Inv1 x1 x2 →
  ∃ z1 z2,Gv l j ys i x1 x2 = j z1 z2 ∧ Inv1 z1 z2 ∧ (∀ w,Jv w z1 = Om P V w ys (Jv w x1)) ∧ (∀ k,k ∈ z2.map (·.1) ↔ k ∈ ys.map (·.Who) ∨ k ∈ x2.map (·.1)) ∧ z1.length ≤ x1.length + ys.length
 | [],i,x1,x2,_,h=>⟨x1,x2,by rw [Gv],h,fun _=>rfl,fun k=>by simp,by simp⟩
 | y :: ys,i,x1,x2,hy,h=>by
  obtain ⟨n1,n2⟩:=Rf y.Who ([] : List Int) x2 h.nd
  have hI : Inv1 x1 (Fz x2 y.Who []):=⟨h.val,fun e he=>(n2 _).2 (.inr (h.who e he)),n1,fun k=>by rw [Su]; split; rfl; exact h.nil k⟩
  have hk : ∀ (z2 : List (ByteArray × List Int)),(∀ k,k ∈ z2.map (·.1) ↔ k ∈ ys.map (·.Who) ∨ k ∈ (Fz x2 y.Who ([] : List Int)).map (·.1)) → ∀ k,k ∈ z2.map (·.1) ↔ k ∈ (y :: ys).map (·.Who) ∨ k ∈ x2.map (·.1):=fun z2 hz k=>by
   rw [hz k,n2 k,List.map_cons,List.mem_cons]
   constructor
   ·rintro (h | h | h)
    ·exact .inl (.inr h)
    ·exact .inl (.inl h)
    ·exact .inr h
   ·rintro ((h | h) | h)
    ·exact .inr (.inl h)
    ·exact .inl h
    ·exact .inr (.inr h)
  rw [Gv,Qg]
  have hPy:=hP y
  cases hp : P y with
  | true =>
   obtain ⟨e1,v1⟩:=hy y (by simp) hp
   rw [hp] at hPy
   rw [if_pos hPy.symm,e1,Option.bind_some]
   obtain ⟨z1,z2,e,g1,g2,g3,g4⟩:=Xs l j hP ys (i + 1) (Fz x1 (Df.mk y.Race y.Who) (Rt (Gp x1 (Df.mk y.Race y.Who) 0) (V y))) (Fz x2 y.Who []) (fun z hz=>hy z (by simp [hz]))
    ⟨fun e he=>by
     rcases Sy _ _ e x1 he with rfl | he
     ·exact Yq (Yp Ol ⟨by omega,by omega⟩ _ x1 h.val) v1
     ·exact h.val e he,fun e he=>by
     rcases Sy _ _ e x1 he with rfl | he
     ·exact (n2 _).2 (.inl rfl)
     ·exact (n2 _).2 (.inr (h.who e he)),n1,hI.nil⟩
   refine ⟨z1,z2,e,g1,fun w=>?_,hk z2 g3,?_⟩
   ·rw [g2 w,Wr,Om]
    have hgt : Gp x1 (Df.mk y.Race y.Who) 0 = Gp (Jv y.Who x1) y.Race 0:=by unfold Gp; rw [Ws]
    by_cases hw : y.Who = w
    ·subst hw
     rw [if_pos rfl,if_pos ⟨rfl,hp⟩,hgt]
    ·rw [if_neg hw,if_neg fun e=>hw e.1]
   ·have:=Vn (Df.mk y.Race y.Who) (Rt (Gp x1 (Df.mk y.Race y.Who) 0) (V y)) x1
    simp only [List.length_cons]; omega
  | false =>
   rw [hp] at hPy
   rw [if_neg (by rw [← hPy]; simp)]
   obtain ⟨z1,z2,e,g1,g2,g3,g4⟩:=Xs l j hP ys (i + 1) x1 (Fz x2 y.Who []) (fun z hz=>hy z (by simp [hz])) hI
   refine ⟨z1,z2,e,g1,fun w=>?_,hk z2 g3,?_⟩
   ·rw [g2 w,Om,if_neg fun e=>by rw [hp] at e; cases e.2]
   ·simp only [List.length_cons]; omega
theorem AV (j : List (ByteArray × List Int) → Option (List De × Int)) : ∀ (p : List (Df × Int)) (x : List (ByteArray × List Int)) (n : Nat),n + p.length ≤ 1000 → (∀ k,(Gp x k []).length ≤ n) → (x.map (·.1)).Nodup → (∀ e ∈ p,e.1.who_ ∈ x.map (·.1)) →
  ∃ z,Gw j p x = j z ∧ (z.map (·.1)).Nodup ∧ (∀ k,k ∈ z.map (·.1) ↔ k ∈ x.map (·.1)) ∧ ∀ k,Gp z k [] = Gp x k [] ++ (Jv k p).map (·.2)
 | [],x,n,_,_,hn,_=>⟨x,by rw [Gw],hn,fun _=>Iff.rfl,fun k=>by simp [Jv]⟩
 | e :: p,x,n,h1,h2,hn,hw=>by
  simp only [List.length_cons] at h1
  have hl:=h2 e.1.who_
  obtain ⟨a1,a2⟩:=Rf e.1.who_ (Gp x e.1.who_ [] ++ [e.2]) x hn
  have hkk : ∀ k,k ∈ (Fz x e.1.who_ (Gp x e.1.who_ [] ++ [e.2])).map (·.1) ↔ k ∈ x.map (·.1):=fun k=>by
   rw [a2 k]
   exact ⟨fun h=>h.elim (fun h=>by rw [h]; exact hw e (by simp)) id,.inr⟩
  obtain ⟨z,e1,g1,g2,g3⟩:=AV j p (Fz x e.1.who_ (Gp x e.1.who_ [] ++ [e.2])) (n + 1) (by omega) (fun k=>by
   rw [Su]; split
   ·simp; omega
   ·have:=h2 k; omega) a1 (fun z hz=>(hkk _).2 (hw z (by simp [hz])))
  refine ⟨z,?_,g1,fun k=>(g2 k).trans (hkk k),fun k=>?_⟩
  ·rw [Gw,Ok (by unfold Rh; simp; omega),Option.bind_some,e1]
  ·rw [g3 k,Su,Jv]
   by_cases h : k = e.1.who_
   ·subst h
    simp
   ·rw [if_neg h,if_neg fun e=>h e.symm]
theorem CD (l : List Dw) (r : List Dm) (many : Int) (hB : Gk l = some 0) (hRes : Iu r = some 0) (h1 : 1 ≤ many) (h2 : many ≤ 100) (hlen : r.length ≤ 12)
  (hP : ∀ y,P y = ((decide (0 < Dn l y.Race)) && decide (0 < y.Time))) (hV : ∀ y ∈ r,P y = true → Hq (Dn l y.Race) y.Time = some (V y) ∧ Ol (V y)) :
  Je l r many = some ((Pa (r.map (·.Who))).map fun k=>De.mk k (Di.mk (Sw many ((Om P V k r []).map (·.2))) 1),0):=by
 have hW : Ig many 1 100 = true:=by unfold Ig; simp; omega
 unfold Je
 rw [hB,Option.bind_some,if_neg (by simp),hRes,Option.bind_some,if_neg (by simp),hW,if_neg (by simp)]
 simp only [Hw]
 obtain ⟨x1,x2,e1,hI,hF,hK,hx1⟩:=Xs P V l (fun x1 x2=>Ul x1 fun p=>Gw (fun x3=>Ul x3 fun p=>Gm many (fun x4=>Option.bind (Lt x4) fun r3=>some (r3,0)) p []) p x2) hP r 0 [] [] hV ⟨fun e he=>(by cases he),fun e he=>(by cases he),(by simp),fun _=>rfl⟩
 refine e1.trans ?_
 refine Ud fun p hp=>?_
 have hpl : p.length ≤ 12:=by rw [hp.length_eq]; simp at hx1; omega
 obtain ⟨x3,e2,n3,k3,g3⟩:=AV (fun x3=>Ul x3 fun p=>Gm many (fun x4=>Option.bind (Lt x4) fun r3=>some (r3,0)) p []) p x2 0 (by omega) (fun k=>by rw [hI.nil k]; simp) hI.nd (fun e he=>hI.who e (hp.mem_iff.1 he))
 refine e2.trans ?_
 refine Ud fun q hq=>?_
 have hqn : (q.map (·.1)).Nodup:=((hq.map (·.1)).nodup_iff).2 n3
 have hval : ∀ k,∀ v ∈ (Jv k p).map (·.2),Ol v:=fun k v hv=>by
  obtain ⟨e,he,rfl⟩:=List.mem_map.1 hv
  exact hI.val _ (hp.mem_iff.1 (Tl he))
 have hrow : ∀ e ∈ q,e.2 = (Jv e.1 p).map (·.2):=fun e he=>by
  have h3:=((Xr ([] : List Int) x3 n3 e.1 e.2).1 (hq.mem_iff.1 he)).2
  rw [← h3,g3 e.1,hI.nil]; rfl
 rw [AU many h1 _ q [] (fun e he=>by
  rw [hrow e he]
  exact ⟨by rw [List.length_map]; have:=Wt e.1 p; omega,hval e.1⟩)]
 obtain ⟨b1,b2,b3,_⟩:=Wq (fun l=>Di.mk (Sw many l) 1) q [] (by simp) hqn
 have hkeys : ∀ k,k ∈ q.map (·.1) ↔ k ∈ Pa (r.map (·.Who)):=fun k=>by
  rw [(hq.map (·.1)).mem_iff,k3 k,hK k,Vh]; simp
 have hfew : (q.map (·.1)).length ≤ 12:=by
  have:=Rg (q.map (·.1)) (r.map (·.Who)) hqn fun k hk=>(Vh _ k).1 ((hkeys k).1 hk)
  simp only [List.length_map] at this ⊢
  omega
 have hval2 : ∀ k ∈ q.map (·.1),Gp (q.foldl (fun x e=>Fz x e.1 (Di.mk (Sw many e.2) 1)) []) k (Di.mk 0 0) = Di.mk (Sw many ((Om P V k r []).map (·.2))) 1:=fun k hk=>by
  obtain ⟨e,he,rfl⟩:=List.mem_map.1 hk
  rw [b3 e he,hrow e he,Wp many ((Ze e.1 hp).map (·.2)),hF e.1]; rfl
 rw [Zd (K:=Pa (r.map (·.Who))) (fun k=>Di.mk (Sw many ((Om P V k r []).map (·.2))) 1) b1 (by
  have:=Rg _ (q.map (·.1)) b1 fun k hk=>by simpa using (b2 k).1 hk
  rw [List.length_map] at this
  omega) (AR _) fun k v=>by
  rw [Xr (Di.mk 0 0) _ b1 k v,b2 k,← hkeys k]
  constructor
  ·rintro ⟨h | h,rfl⟩
   ·exact ⟨h,hval2 k h⟩
   ·cases h
  ·rintro ⟨h,rfl⟩
   exact ⟨.inl h,hval2 k h⟩]
 rfl
end fold
end Go.Proofs.YthlanmcejeohmaaGreatDoor
namespace Go.Proofs.YthlanmcejeohmaaGreatDoor
open Go
end Go.Proofs.YthlanmcejeohmaaGreatDoor
namespace Go.Proofs.YthlanmcejeohmaaGreatDoor
open Go
theorem AW (P : List Int) (v : Int) (Q : List Int) : nth (P ++ v :: Q) (P.length : Int) = v:=by unfold nth; simp
theorem AX (P : List Int) (v u : Int) (Q : List Int) : (P ++ v :: Q).set P.length u = P ++ u :: Q:=by simp
theorem rev_l (j : List Int → Option (List Int)) : ∀ (k m : Nat) (A M B : List Int),M.length ≤ k → M.length < m → A.length + M.length + B.length ≤ 1000000 →
  Fu j m (A ++ (M ++ B)) (A.length : Int) ((A.length : Int) + (M.length : Int) - 1) = j (A ++ (M.reverse ++ B))
 | k,0,A,M,B,_,h,_=>by omega
 | k,m + 1,A,M,B,hk,hm,hl=>by
  rw [Fu]
  match M,hk,hm,hl with
  | [],_,_,_=>rw [if_neg (by simp; omega)]; rfl
  | [z],_,_,_=>rw [if_neg (by simp)]; rfl
  | a :: z :: M1,hk,hm,hl =>
   obtain ⟨M2,b,hM⟩ : ∃ M2 b,z :: M1 = M2 ++ [b]:=by
    rcases List.eq_nil_or_concat (z :: M1) with h | ⟨M2,b,h⟩
    ·cases h
    ·exact ⟨M2,b,by rw [h]; simp⟩
   rw [hM] at hk hm hl ⊢
   simp only [List.length_cons,List.length_append,List.length_nil] at hk hm hl ⊢
   have hlen : (A ++ (a :: (M2 ++ [b]) ++ B)).length = A.length + M2.length + 2 + B.length:=by simp; omega
   have e3 : (A.length : Int) + ((M2.length + (0 + 1) + 1 : Nat) : Int) - 1 = ((A.length + M2.length + 1 : Nat) : Int):=by omega
   rw [e3,if_pos (decide_eq_true (by omega))]
   have n2 : nth (A ++ (a :: (M2 ++ [b]) ++ B)) (A.length : Int) = a:=by rw [List.cons_append]; exact AW _ _ _
   have h1 : A ++ (a :: (M2 ++ [b]) ++ B) = (A ++ a :: M2) ++ b :: B:=by simp
   have h2 : (A ++ a :: M2).length = A.length + M2.length + 1:=by simp; omega
   have n3 : nth (A ++ (a :: (M2 ++ [b]) ++ B)) ((A.length + M2.length + 1 : Nat) : Int) = b:=by
    rw [h1,← h2]; exact AW _ _ _
   have hs : ((A ++ (a :: (M2 ++ [b]) ++ B)).set ((A.length : Int)).toNat b).set (((A.length + M2.length + 1 : Nat) : Int)).toNat a = (A ++ [b]) ++ (M2 ++ (a :: B)):=by
    rw [Int.toNat_natCast,Int.toNat_natCast]
    have q1 : (A ++ (a :: (M2 ++ [b]) ++ B)).set A.length b = (A ++ b :: M2) ++ b :: B:=by
     rw [List.cons_append,AX]; simp
    have q2 : (A ++ b :: M2).length = A.length + M2.length + 1:=by simp; omega
    rw [q1,← q2,AX]
    simp
   rw [Hf (Im.2 (by omega)),Hf (Im.2 (by omega)),Hf (Im.2 (by omega)),Hf (Im.2 (by rw [List.length_set]; omega)),n2,n3,hs,Kc (by omega) (by omega),Kc (by omega) (by omega)]
   have ih:=rev_l j (k - 2) m (A ++ [b]) M2 (a :: B) (by omega) (by omega) (by simp; omega)
   have e1 : (((A ++ [b]).length : Nat) : Int) = (A.length : Int) + 1:=by simp
   rw [e1] at ih
   have e2 : (A.length : Int) + 1 + (M2.length : Int) - 1 = ((A.length + M2.length + 1 : Nat) : Int) - 1:=by omega
   rw [e2] at ih
   rw [ih]
   simp
theorem Zf (l : List Int) (hl : l.length ≤ 1000000) : Jz l = some l.reverse:=by
 unfold Jz
 rw [Hw,Kc (by omega) (by omega)]
 have h:=rev_l (fun x=>some x) l.length (((l.length : Int) - 1 - 0).toNat + 2) [] l [] (Nat.le_refl _) (by omega) (by simp; omega)
 simpa using h
end Go.Proofs.YthlanmcejeohmaaGreatDoor
namespace Go.Proofs.YthlanmcejeohmaaGreatDoor
open Go
def ltI (x y : Int) : Bool:=Lu x y
theorem Zg (x y : Int) : ltI x y = decide (x < y):=by unfold ltI Lu Hg; simp
theorem CE (l : List Int) (hl : l.length ≤ 12) : Gr l 0 (l.length : Int) = some (Kg ltI l):=by
 unfold Gr
 simp only [Qg]
 have hins : ∀ (k : List Int → Option (List Int)) (rp : List Int) (x : Int) (post : List Int),((rp ++ x :: post).length : Int) = (l.length : Int) → (∀ y,y ∈ rp ∨ y = x ∨ y ∈ post → y ∈ (rp ++ x :: post)) →
   Ef 0 k (((rp.length : Int) - 0).toNat + 2) (rp.reverse ++ x :: post) (rp.length : Int) = k ((Md ltI x rp).reverse ++ post):=by
  intro k rp x post h1 _
  exact AI (fun x y k=>k (ltI x y)) ltI k (Ef 0 k) (fun _ _ _=>rfl) rp x post _ (by omega) (by simp at h1; omega) fun y _ k'=>rfl
 cases l with
 | nil=>rfl
 | cons x l =>
  have hw : W (0 + 1) = (([x] : List Int).length : Int):=rfl
  rw [hw]
  exact Uj ltI (fun x=>some x) (fun k x i=>Ef 0 k ((i - 0).toNat + 2) x i) (Ei ((x :: l).length : Int) 0 fun x=>some x) ((x :: l).length : Int) (fun _ _ _=>rfl)
   (fun k rp x post h1 h2=>hins k rp x post h1 h2) l [x] _ (by simp only [List.length_cons,List.length_nil]; omega) (by simp only [List.length_cons,List.length_nil]; omega) (by simp only [List.length_cons,List.length_nil] at hl ⊢; omega)
theorem DT (l : List Int) (hl : l.length ≤ 12) : Lf l = some (Kg ltI l):=by
 unfold Lf
 obtain ⟨r,hr⟩:=Option.isSome_iff_exists.1 (DO ⟨l.length,by omega⟩)
 simp only at hr
 rw [hr]
 simp only [Option.bind_some]
 unfold Iz
 rw [show (4611686018427387904 : Nat) = 4611686018427387903 + 1 from rfl,Fd,Kc (by omega) (by omega),if_pos (decide_eq_true (by omega)),CE l hl]
 rfl
theorem CF (l : List Int) : (Kg ltI l).reverse = Kg gtI l:=by
 refine Wo ?_ (Qu l) ((List.reverse_perm _).trans ((Qc ltI l).trans (Qc gtI l).symm))
 rw [List.pairwise_reverse]
 refine (Vj (lt:=ltI) (fun x y h=>?_) (fun x y z h h'=>?_) l).imp fun {a b} h=>?_
 ·rw [Zg] at *; simp at *; omega
 ·rw [Zg] at *; simp at *; omega
 ·rw [Zg] at h; simp at h; omega
section ref
variable (P : Dm → Bool) (V : Dm → Int)
theorem Xt (l : List Dw) (w : ByteArray) (hP : ∀ y,P y = ((decide (0 < Eg l y.Race)) && decide (0 < y.Time))) (j : List (ByteArray × Int) → Option Di) : ∀ (ys : List Dm) (i : Nat) (x : List (ByteArray × Int)),(∀ y ∈ ys,P y = true → Fv l y.Race y.Time = some (V y)) →
  Ev w l j ys i x = j (Om P V w ys x)
 | [],i,x,_=>by rw [Ev]; rfl
 | y :: ys,i,x,h=>by
  rw [Ev,Om]
  simp only [Qg]
  by_cases hc : y.Who = w ∧ P y = true
  ·have hp:=hc.2
   rw [hP y] at hp
   simp only [Bool.and_eq_true,decide_eq_true_eq] at hp
   rw [if_pos hc,if_pos (by simp only [Bool.and_eq_true,decide_eq_true_eq]; exact ⟨⟨hc.1,hp.2⟩,hp.1⟩),h y (by simp) hc.2,Option.bind_some]
   exact Xt l w hP j ys (i + 1) _ fun z hz=>h z (by simp [hz])
  ·rw [if_neg hc,if_neg (by
    intro hq
    simp only [Bool.and_eq_true,decide_eq_true_eq] at hq
    exact hc ⟨hq.1.1,by rw [hP y]; simp only [Bool.and_eq_true,decide_eq_true_eq]; exact ⟨hq.2,hq.1.2⟩⟩)]
   exact Xt l w hP j ys (i + 1) _ fun z hz=>h z (by simp [hz])
theorem AY (j : List Int → Option Di) : ∀ (p : List (ByteArray × Int)) (x : List Int),x.length + p.length ≤ 1000 → Ff j p x = j (x ++ p.map (·.2))
 | [],x,_=>by rw [Ff]; simp
 | y :: p,x,h=>by
  simp only [List.length_cons] at h
  rw [Ff,Ok (by unfold Rh; simp; omega),Option.bind_some,AY j p (x ++ [y.2]) (by simp; omega)]
  simp
theorem AZ (j : Int → Option Di) : ∀ (ys : List Int) (i : Nat) (x : Int),(∀ v ∈ ys,Ol v) → 0 ≤ x → x + 1000000000 * (ys.length : Int) ≤ 1000000000000000 → Ew j ys i x = j (x + ys.sum)
 | [],i,x,_,_,_=>by rw [Ew]; simp
 | y :: ys,i,x,h,h0,h1=>by
  have hy:=h y (by simp)
  unfold Ol at hy
  simp only [List.length_cons] at h1
  rw [Ew,Kc (by omega) (by omega),AZ j ys (i + 1) (x + y) (fun v hv=>h v (by simp [hv])) (by omega) (by omega),List.sum_cons]
  congr 1
  omega
theorem Tm (w : ByteArray) : ∀ (ys : List Dm) (m : List (ByteArray × Int)),(∀ y ∈ ys,P y = true → Ol (V y)) → (∀ e ∈ m,Ol e.2) → (∀ e ∈ Om P V w ys m,Ol e.2) ∧ (Om P V w ys m).length ≤ m.length + ys.length
 | [],m,_,h=>⟨h,by simp [Om]⟩
 | y :: ys,m,hy,h=>by
  rw [Om]
  split
  ·rename_i hc
   obtain ⟨a,b⟩:=Tm w ys (Fz m y.Race (Rt (Gp m y.Race 0) (V y))) (fun z hz=>hy z (by simp [hz])) fun e he=>by
    rcases Sy _ _ e m he with rfl | he
    ·exact Yq (Yp Ol ⟨by omega,by omega⟩ _ m h) (hy y (by simp) hc.2)
    ·exact h e he
   have:=Vn y.Race (Rt (Gp m y.Race 0) (V y)) m
   exact ⟨a,by simp only [List.length_cons]; omega⟩
  ·obtain ⟨a,b⟩:=Tm w ys m (fun z hz=>hy z (by simp [hz])) h
   exact ⟨a,by simp only [List.length_cons]; omega⟩
theorem refB_c1 (l : List Dw) (r : List Dm) (many : Int) (h1 : 1 ≤ many) (hlen : r.length ≤ 12) (hP : ∀ y,P y = ((decide (0 < Eg l y.Race)) && decide (0 < y.Time))) (hV : ∀ y ∈ r,P y = true → Fv l y.Race y.Time = some (V y) ∧ Ol (V y)) (w : ByteArray) :
  Il w r l many = some (Di.mk (Sw many ((Om P V w r []).map (·.2))) 1):=by
 unfold Il
 simp only [Qg]
 rw [Xt P V l w hP _ r 0 [] fun y hy hp=>(hV y hy hp).1]
 obtain ⟨g1,g2⟩:=Tm P V w r [] (fun y hy hp=>(hV y hy hp).2) (fun e he=>by cases he)
 simp only [List.length_nil] at g2
 refine Ud fun p hp=>?_
 have hpl:=hp.length_eq
 rw [AY _ p [] (by simp; omega),List.nil_append,DT _ (by rw [List.length_map]; omega),Option.bind_some,Zf _ (by rw [Sb,List.length_map]; omega),Option.bind_some,CF]
 obtain ⟨c1,c2⟩:=AS (Kg gtI (p.map (·.2))) h1
 have hlen2:=Sb gtI (p.map (·.2))
 rw [List.length_map] at hlen2
 rw [Ok c1,c2,AZ _ _ 0 0 (fun v hv=>by
  have hv2:=(Tk gtI _ v).1 (List.mem_of_mem_take hv)
  obtain ⟨e,he,rfl⟩:=List.mem_map.1 hv2
  exact g1 e (hp.mem_iff.1 he)) (by omega) (by rw [List.length_take]; omega),Int.zero_add]
 show some (Di.mk (Sw many (p.map (·.2))) 1) = _
 rw [Wp many (hp.map (·.2))]
theorem Wu (r : List Dm) (l : List Dw) (many : Int) (F : ByteArray → Di) (hF : ∀ w,Il w r l many = some (F w)) (j : List De → Option (List De)) : ∀ (ks : List ByteArray) (i : Nat) (x : List De),x.length + ks.length ≤ 1000 →
  Du r l many j ks i x = j (x ++ ks.map fun k=>De.mk k (F k))
 | [],i,x,_=>by rw [Du]; simp
 | k :: ks,i,x,h=>by
  simp only [List.length_cons] at h
  rw [Du,hF k,Option.bind_some,Ok (by unfold Rh; simp; omega),Wu r l many F hF j ks (i + 1) _ (by simp; omega)]
  simp
theorem Vo (j : List ByteArray → Option (List De)) : ∀ (ys : List Dm) (i : Nat) (x : List ByteArray),x.length + ys.length ≤ 1000 → Fm j ys i x = j (x ++ ys.map (·.Who))
 | [],i,x,_=>by rw [Fm]; simp
 | y :: ys,i,x,h=>by
  simp only [List.length_cons] at h
  rw [Fm,Ok (by unfold Rh; simp; omega),Vo j ys (i + 1) _ (by simp; omega)]
  simp
theorem refB_is (l : List Dw) (r : List Dm) (many : Int) (h1 : 1 ≤ many) (hlen : r.length ≤ 12) (hP : ∀ y,P y = ((decide (0 < Eg l y.Race)) && decide (0 < y.Time))) (hV : ∀ y ∈ r,P y = true → Fv l y.Race y.Time = some (V y) ∧ Ol (V y)) :
  It l r many = some ((Pa (r.map (·.Who))).map fun k=>De.mk k (Di.mk (Sw many ((Om P V k r []).map (·.2))) 1)):=by
 have hs : (Jh (r.map (·.Who))).length = r.length:=by simp [Jh]
 have hk : (Pa (r.map (·.Who))).length ≤ 12:=by
  have:=Rg _ (r.map (·.Who)) ((AR (r.map (·.Who))).imp fun {a b} h e=>by rw [e,AN] at h; omega) fun k hk=>(Vh _ k).1 hk
  rw [List.length_map] at this
  omega
 unfold It
 rw [Qg,Vo _ r 0 [] (by simp; omega),List.nil_append]
 unfold Hb Lb
 rw [Ok (by rw [List.length_map]; exact decide_eq_true (by omega)),Option.bind_some,Zc _ (by omega),Option.bind_some,Qg]
 show Option.bind (Du r l many (fun x1=>some x1) (Pa (r.map (·.Who))) 0 []) _ = _
 rw [Wu r l many _ (refB_c1 P V l r many h1 hlen hP hV) _ _ 0 [] (by simp; omega)]
 simp
end ref
end Go.Proofs.YthlanmcejeohmaaGreatDoor
namespace Go.Proofs.YthlanmcejeohmaaGreatDoor
open Go
theorem DU (l : List De) : Ka l l = some true:=by
 unfold Ka
 rw [if_neg (by simp),Qg]
 exact eq_l l (Gf l (some true)) (fun _=>rfl) (fun _ _ _=>rfl) l [] rfl
theorem Yr : Lv = some true:=by decide +kernel
section law
variable {b : List Dw}
theorem Zh (race : ByteArray) (time e : Int) (he : Gk b = some e) (hok : e = 0 → ∀ y ∈ b,1 ≤ y.Time ∧ y.Time ≤ 360000) :
  ∃ p f,Lg b race time = some (p,f) ∧ f = Dd [Dd [e,Dc (!(An b race)) 8],Dc ((decide (time < 1)) || (decide (360000 < time))) 1] ∧ (f = 0 → Fv b race time = some p) ∧ (f ≠ 0 → p = 0):=by
 unfold Lg
 rw [he,Option.bind_some]
 simp only [Tj,Uy]
 by_cases h0 : e = 0
 ·subst h0
  rw [if_neg (by simp)]
  have hbo:=Nq race b 0 (hok rfl)
  have hc : ∀ n,Dh race (-1) b 0 = n → An b race = decide (0 ≤ n):=fun n h=>by rw [← h]; rfl
  rcases hbo with ⟨v,v1,v2,v3,v4,v5⟩ | ⟨v3,_,v5⟩
  ·have p1 : Dn b race = (v : Int):=v3
   have p2 : Eg b race = (v : Int):=v4
   have p3 : An b race = true:=by rw [hc _ rfl]; exact decide_eq_true v5
   rw [p1,p3,if_neg (by simp only [decide_eq_true_eq]; omega)]
   unfold Ju Ig Dc
   by_cases ht : 1 ≤ time ∧ time ≤ 360000
   ·obtain ⟨t,rfl⟩:=Int.eq_ofNat_of_zero_le (show 0 ≤ time by omega)
    rw [if_neg (by simp; omega),Qa (by omega) (by omega) ht.1 ht.2,Option.bind_some]
    refine ⟨_,_,rfl,?_,fun _=>Ss p2 v1 v2 (by omega) (by omega),fun h=>(h rfl).elim⟩
    have c1 : (decide ((t : Int) < 1) || decide (360000 < (t : Int))) = false:=by simp; omega
    rw [c1]; simp
   ·rw [if_pos (by simp; omega)]
    refine ⟨_,_,rfl,?_,fun h=>(by cases h),fun _=>rfl⟩
    have c1 : (decide (time < 1) || decide (360000 < time)) = true:=by simp; omega
    rw [c1]; simp
  ·have p1 : Dn b race = 0:=v3
   have p3 : An b race = false:=by rw [hc _ v5]; rfl
   rw [p1,p3,if_pos (by simp)]
   exact ⟨_,_,rfl,by simp [Dc],fun h=>(by cases h),fun _=>rfl⟩
 ·rw [if_pos (by simp [h0])]
  exact ⟨_,_,rfl,by simp [h0],fun h=>(h0 h).elim,fun _=>rfl⟩
theorem Ys (race : ByteArray) (n e : Int) (he : Gk b = some e) (hok : e = 0 → ∀ y ∈ b,1 ≤ y.Time ∧ y.Time ≤ 360000) :
  ∃ t ok f,Ls b race n = some (t,ok,f) ∧ f = Dd [Dd [e,Dc (!(An b race)) 8],Dc ((decide (n < 1)) || (decide (1000000 < n))) 1] ∧ (f = 0 → Jl b race n = some (t,ok)) ∧ (f ≠ 0 → t = 0 ∧ ok = false):=by
 unfold Ls
 rw [he,Option.bind_some]
 simp only [Tj,Uy]
 by_cases h0 : e = 0
 ·subst h0
  rw [if_neg (by simp)]
  have hbo:=Nq race b 0 (hok rfl)
  have hc : ∀ n,Dh race (-1) b 0 = n → An b race = decide (0 ≤ n):=fun n h=>by rw [← h]; rfl
  rcases hbo with ⟨v,v1,v2,v3,v4,v5⟩ | ⟨v3,_,v5⟩
  ·have p1 : Dn b race = (v : Int):=v3
   have p2 : Eg b race = (v : Int):=v4
   have p3 : An b race = true:=by rw [hc _ rfl]; exact decide_eq_true v5
   rw [p1,p3,if_neg (by simp only [decide_eq_true_eq]; omega)]
   unfold Ig Dc
   by_cases ht : 1 ≤ n ∧ n ≤ 1000000
   ·obtain ⟨n,rfl⟩:=Int.eq_ofNat_of_zero_le (show 0 ≤ n by omega)
    have c1 : (decide ((n : Int) < 1) || decide (1000000 < (n : Int))) = false:=by simp; omega
    obtain ⟨z,z1,z2,z3,z4⟩:=BR p2 v1 v2 (n:=n) (by omega) (by omega)
    have hone:=Qb (b:=v) (t:=1) (n:=n) (by omega) (by omega)
    rw [if_neg (by simp; omega),Qa (t:=1) (by omega) (by omega) (by omega) (by omega),Option.bind_some,c1]
    rw [show ((1 : Nat) : Int) = 1 from rfl] at hone
    by_cases hp : pts (v : Int) 1 < (n : Int)
    ·rw [if_pos (decide_eq_true hp)]
     rw [decide_eq_false (by omega)] at hone
     have hz : z = 0:=by
      rcases Nat.eq_zero_or_pos z with h | h
      ·exact h
      ·rw [Qs h z3] at hone; cases hone
     subst hz
     exact ⟨_,_,_,rfl,by simp,fun _=>z1,fun h=>(h rfl).elim⟩
    ·rw [if_neg (by simpa using hp),Hw]
     rw [decide_eq_true (by omega)] at hone
     obtain ⟨q,q1,q2,q3,q4,q5⟩:=BS p1 v1 v2 (n:=n) (by omega) (by omega) hone fun x1=>some (x1,true,0)
     rw [q1]
     have hqz : q = z:=by
      refine Nat.le_antisymm ?_ ?_
      ·rcases z4 with h | h
       ·omega
       ·rcases Nat.lt_or_ge z q with h2 | h2
        ·rw [Qs h2 q4] at h; cases h
        ·exact h2
      ·rcases q5 with h | h
       ·omega
       ·rcases Nat.lt_or_ge q z with h2 | h2
        ·rw [Qs h2 z3] at h; cases h
        ·exact h2
     subst hqz
     refine ⟨_,_,_,rfl,by simp,fun _=>?_,fun h=>(h rfl).elim⟩
     rw [z1,decide_eq_true (by omega)]
   ·rw [if_pos (by simp; omega)]
    refine ⟨_,_,_,rfl,?_,fun h=>(by cases h),fun _=>⟨rfl,rfl⟩⟩
    have c1 : (decide (n < 1) || decide (1000000 < n)) = true:=by simp; omega
    rw [c1]; simp
  ·have p1 : Dn b race = 0:=v3
   have p3 : An b race = false:=by rw [hc _ v5]; rfl
   rw [p1,p3,if_pos (by simp)]
   exact ⟨_,_,_,rfl,by simp [Dc],fun h=>(by cases h),fun _=>⟨rfl,rfl⟩⟩
 ·rw [if_pos (by simp [h0])]
  exact ⟨_,_,_,rfl,by simp [h0],fun h=>(h0 h).elim,fun _=>⟨rfl,rfl⟩⟩
theorem DV {r : List Dm} (hr : r.length ≤ 8) (hT : ∀ p ∈ r,TmS p) (many e : Int) (he : Gk b = some e) (hok : e = 0 → ∀ y ∈ b,1 ≤ y.Time ∧ y.Time ≤ 360000) :
  ∃ g h,Je b r many = some (g,h) ∧ h = Dd [e,Nw r,Dc ((decide (many < 1)) || (decide (100 < many))) 1] ∧ (h = 0 → It b r many = some g) ∧ (h ≠ 0 → g = []):=by
 have hRes:=checkT hr hT
 simp only [Tj,Uy]
 by_cases h0 : e = 0
 ·subst h0
  by_cases h1 : Nw r = 0
  ·unfold Dc
   by_cases hm : 1 ≤ many ∧ many ≤ 100
   ·have c1 : (decide (many < 1) || decide (100 < many)) = false:=by simp; omega
    have bb : ∀ race,Dn b race = Eg b race:=fun race=>by
     rcases Nq race b 0 (hok rfl) with ⟨v,_,_,v3,v4,_⟩ | ⟨v3,v4,_⟩
     ·exact Eq.trans (show Dn b race = (v : Int) from v3) (show (v : Int) = Eg b race from v4.symm)
     ·exact Eq.trans (show Dn b race = 0 from v3) (show 0 = Eg b race from v4.symm)
    have hv : ∀ y ∈ r,((decide (0 < Dn b y.Race)) && decide (0 < y.Time)) = true → Hq (Dn b y.Race) y.Time = some (pts (Dn b y.Race) y.Time) ∧ Fv b y.Race y.Time = some (pts (Dn b y.Race) y.Time) ∧ Ol (pts (Dn b y.Race) y.Time):=by
     intro y hy hp
     simp only [Bool.and_eq_true,decide_eq_true_eq] at hp
     have ht:=Yh h1 y hy
     rcases Nq y.Race b 0 (hok rfl) with ⟨v,v1,v2,v3,v4,_⟩ | ⟨v3,_,_⟩
     ·have p1 : Dn b y.Race = (v : Int):=v3
      have p2 : Eg b y.Race = (v : Int):=v4
      rw [p1]
      have hval:=AE (b:=(v : Int)) (t:=y.Time) (by omega) (by omega)
      refine ⟨Qa (by omega) (by omega) (by omega) ht.2,?_,hval⟩
      obtain ⟨t,ht'⟩:=Int.eq_ofNat_of_zero_le ht.1
      rw [ht'] at ht hp ⊢
      exact Ss p2 v1 v2 (by omega) (by omega)
     ·have p1 : Dn b y.Race = 0:=v3
      rw [p1] at hp
      exact absurd hp.1 (by decide)
    rw [h1] at hRes
    rw [CD (fun y=>((decide (0 < Dn b y.Race)) && decide (0 < y.Time))) (fun y=>pts (Dn b y.Race) y.Time) b r many he hRes hm.1 hm.2 (by omega) (fun _=>rfl) fun y hy hp=>⟨(hv y hy hp).1,(hv y hy hp).2.2⟩]
    refine ⟨_,_,rfl,by rw [c1,h1]; simp,fun _=>?_,fun h=>(h rfl).elim⟩
    exact refB_is (fun y=>((decide (0 < Dn b y.Race)) && decide (0 < y.Time))) (fun y=>pts (Dn b y.Race) y.Time) b r many hm.1 (by omega) (fun y=>by rw [← bb]) fun y hy hp=>(hv y hy hp).2
   ·have c1 : (decide (many < 1) || decide (100 < many)) = true:=by simp; omega
    refine ⟨[],1,?_,by rw [c1,h1]; simp,fun h=>(by cases h),fun _=>rfl⟩
    unfold Je Ig
    rw [he,Option.bind_some,if_neg (by simp),hRes,Option.bind_some,h1,if_neg (by simp),if_pos (by simp; omega)]
  ·refine ⟨[],Nw r,?_,by simp [h1],fun h=>(h1 h).elim,fun _=>rfl⟩
   unfold Je
   rw [he,Option.bind_some,if_neg (by simp),hRes,Option.bind_some,if_pos (by simp [h1])]
 ·refine ⟨[],e,?_,by simp [h0],fun h=>(h0 h).elim,fun _=>rfl⟩
  unfold Je
  rw [he,Option.bind_some,if_pos (by simp [h0])]
end law
theorem plain_TimesBringPoints (l : List Int) (hl : l.length ≤ 9223372036854775807) : Ja l = some true:=by
 have hL : Rs l:=by unfold Rs; omega
 obtain ⟨b,a1,e1,p1,q1,hb,hs⟩:=DL hL (a:=0) (by omega) (by omega)
 obtain ⟨race,a2,e2,p2,q2,_⟩:=Re hL (a:=a1) (by omega) (by omega) [Kz,Mb,Rj] (by simp) (by simp)
 obtain ⟨time,a3,e3,p3,q3,_⟩:=St hL (a:=a2) (by omega) (by omega) [1,2,1999,2000,3000,4567,360000,0,360001] (by simp) (by simp)
 obtain ⟨many,a4,e4,p4,q4,_⟩:=St hL (a:=a3) (by omega) (by omega) [1,2,3,100,0,101] (by simp) (by simp)
 obtain ⟨n,a5,e5,p5,q5,_⟩:=St hL (a:=a4) (by omega) (by omega) [1,125,999,1000,1001,1000000,0,1000001] (by simp) (by simp)
 obtain ⟨r,a6,e6,p6,q6,hr,hT⟩:=DH hL (a:=a5) (by omega) (by omega)
 obtain ⟨e,f1,f2,f3⟩:=BZ hb hs
 obtain ⟨p,g1,g2,g3,g4,gg5⟩:=Zh race time e f1 f3
 obtain ⟨t,ok,h1,h2,h3,h4,h5⟩:=Ys race n e f1 f3
 obtain ⟨g,k1,k2,k3,k4,k5⟩:=DV hr hT many e f1 f3
 unfold Ja
 rw [e1]; simp only [Option.bind_some]
 rw [e2]; simp only [Option.bind_some]
 rw [e3]; simp only [Option.bind_some]
 rw [e4]; simp only [Option.bind_some]
 rw [e5]; simp only [Option.bind_some]
 rw [e6]; simp only [Option.bind_some]
 rw [g2,h2,k2,f2,timesF hr hT,f1]
 simp only [Option.bind_some,Hw,← g3,← h3,← k3]
 have A : ∀ K : Int → Option Bool,(if decide (g1 = 0) = true then Option.bind (Fv b race time) (fun r=>K r) else K 0) = K p:=fun K=>by
  by_cases h : g1 = 0
  ·rw [if_pos (decide_eq_true h),g4 h,Option.bind_some]
  ·rw [if_neg (by simpa using h),gg5 h]
 have B : ∀ K : Int × Bool → Option Bool,(if decide (h1 = 0) = true then Option.bind (Jl b race n) (fun r=>K r) else K (0,false)) = K (t,ok):=fun K=>by
  by_cases h : h1 = 0
  ·rw [if_pos (decide_eq_true h),h4 h,Option.bind_some]
  ·rw [if_neg (by simpa using h),(h5 h).1,(h5 h).2]
 have C : ∀ K : List De → Option Bool,(if decide (k1 = 0) = true then Option.bind (It b r many) (fun r=>K r) else K []) = K g:=fun K=>by
  by_cases h : k1 = 0
  ·rw [if_pos (decide_eq_true h),k4 h,Option.bind_some]
  ·rw [if_neg (by simpa using h),k5 h]
 rw [A]
 refine (B _).trans ?_
 rw [C,DU]
 simp only [decide_true,Bool.and_self,if_true,Option.bind_some,Yr]
end Go.Proofs.YthlanmcejeohmaaGreatDoor
