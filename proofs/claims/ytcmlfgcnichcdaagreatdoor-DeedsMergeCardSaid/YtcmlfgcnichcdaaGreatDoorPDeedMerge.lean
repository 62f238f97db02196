/- Parts of a right list of deeds,and what they are merged to. No program stands here but its twins. -/
import Derived.Test.YtcmlfgcnichcdaaGreatDoorTw
namespace Go.Proofs.YtcmlfgcnichcdaaGreatDoor
open Go

theorem Gm {R : Type} {c : Bool} {k : Option R} (h : c = true) : Chk c k = k:=by simp [Chk,h]
theorem Nj {κ R : Type} (K : κ) (f : κ → R) : Fu K f = f K:=rfl
theorem Wh {x n : Int} (hn : 0 < n) : -n < Int.tmod x n ∧ Int.tmod x n < n:=by
 have h1:=Int.tmod_lt_of_pos x hn
 have h2:=Int.tmod_lt_of_pos (-x) hn
 rw [Int.neg_tmod] at h2
 omega
theorem Xn (x n : Int) (hn : n ≤ 4611686018427387904) : ∃ v,Ll x n = some v ∧ 0 ≤ v ∧ (v < n ∨ (n < 1 ∧ v = 0)):=by
 unfold Ll
 by_cases h : n < 1
 ·exact ⟨0,by simp [h],Int.le_refl _,.inr ⟨h,rfl⟩⟩
 ·have h1:=Wh (x:=x) (n:=n) (by omega)
  have h0 : ¬ n = 0:=by omega
  simp only [decide_eq_true_eq,h,if_false,Fu]
  rw [Gm (by simp [h0])]
  by_cases h2 : Int.tmod x n < 0
  ·rw [if_pos h2,Oh (by omega) (by omega)]
   exact ⟨_,rfl,by omega,.inl (by omega)⟩
  ·rw [if_neg h2]
   exact ⟨_,rfl,by omega,.inl (by omega)⟩
theorem Tu (L : List Int) (a n : Int) (ha : 0 ≤ a) (ha' : a ≤ 4611686018427387904) (hL : (L.length : Int) ≤ 9223372036854775807) (hn : n ≤ 4611686018427387904) :
  ∃ v,Ke L a n = some (v,a + 1) ∧ 0 ≤ v ∧ (v < n ∨ (n < 1 ∧ v = 0)):=by
 have w1 : W (a + 1) = a + 1:=Oh (by omega) (by omega)
 have w2 : W (a + 1 - 1) = a:=by rw [show a + 1 - 1 = a by omega]; exact Oh (by omega) (by omega)
 unfold Ke
 rw [w1,w2]
 by_cases h : (L.length : Int) = 0
 ·obtain ⟨v,h1,h2,h3⟩:=Xn (W ((a + 1) * 7919)) n hn
  exact ⟨v,by simp [h,h1],h2,h3⟩
 ·have h0 : 0 < (L.length : Int):=by omega
  have hm:=Wh (x:=a) h0
  have hm0 : 0 ≤ Int.tmod a (L.length : Int):=Int.tmod_nonneg _ ha
  have hc : inB (Int.tmod a (L.length : Int)) L.length = true:=Ju.2 ⟨hm0,hm.2⟩
  obtain ⟨v1,e1,_,_⟩:=Xn (nth L (Int.tmod a (L.length : Int))) 1073741824 (by omega)
  simp only [decide_eq_true_eq,h,if_false]
  rw [Gm (by simp),Gm (by simp),Gm hc,e1]
  simp only [Option.bind_some]
  obtain ⟨v2,e2,g1,g2⟩:=Xn (W (v1 + W (W (Int.tdiv a (L.length : Int)) * W (7919 + Int.tmod a (L.length : Int))))) n hn
  exact ⟨v2,by rw [e2]; rfl,g1,g2⟩
theorem CY (L : List Int) (a : Int) (l : List Int) (ha : 0 ≤ a) (ha' : a ≤ 4611686018427387904) (hL : (L.length : Int) ≤ 9223372036854775807) (hl : 0 < l.length) (hl' : l.length ≤ 1000) :
  ∃ v,Kf L a l = some (v,a + 1) ∧ v ∈ l:=by
 obtain ⟨v,h1,h2,h3⟩:=Tu L a (l.length : Int) ha ha' hL (by omega)
 have h4 : v < (l.length : Int):=by omega
 have hc : inB v l.length = true:=Ju.2 ⟨h2,h4⟩
 unfold Kf
 rw [h1]
 simp only [Option.bind_some]
 rw [Gm hc]
 exact ⟨nth l v,rfl,List.mem_of_getElem? (Dg hc).1⟩
theorem CZ (L : List Int) (a n : Int) (ha : 0 ≤ a) (ha' : a ≤ 4611686018427387904) (hL : (L.length : Int) ≤ 9223372036854775807) (hn : n ≤ 4611686018427387904) : ∃ b,Kg L a n = some (b,a + 1):=by
 obtain ⟨v,h1,_,_⟩:=Tu L a n ha ha' hL hn
 unfold Kg
 rw [h1]
 exact ⟨_,rfl⟩
end Go.Proofs.YtcmlfgcnichcdaaGreatDoor
namespace Go.Proofs.YtcmlfgcnichcdaaGreatDoor
open Go

theorem AA {l : List UInt8} {c : UInt8} : decide (Lib.indexByte l c < 0) = !l.contains c:=by
 have key : ∀ l : List UInt8,(Lib.indexByte l c = -1 ∧ l.contains c = false) ∨ (0 ≤ Lib.indexByte l c ∧ l.contains c = true):=by
  intro l
  induction l with
  | nil=>exact .inl ⟨rfl,rfl⟩
  | cons b l ih =>
   by_cases hb : b = c
   ·subst hb; exact .inr (by simp [Lib.indexByte])
   ·have hb' : (b == c) = false:=by simpa using hb
    have hc : (c == b) = false:=by simpa using fun h=>hb h.symm
    rcases ih with ⟨h1,h2⟩ | ⟨h1,h2⟩
    ·refine .inl ⟨by simp [Lib.indexByte,hb',h1],?_⟩
     rw [List.contains_cons,hc,h2]; rfl
    ·have h3 : ¬ Lib.indexByte l c = -1:=by omega
     refine .inr ⟨by simp [Lib.indexByte,hb',h3]; omega,?_⟩
     rw [List.contains_cons,hc,h2]; rfl
 rcases key l with ⟨h1,h2⟩ | ⟨h1,h2⟩
 ·rw [h1,h2]; rfl
 ·rw [h2]; simp; omega
theorem EE (u : UInt8) : ((u.toNat : Int)).toNat.toUInt8 = u:=by simp
theorem Rx (s : ByteArray) : s.size = s.data.toList.length:=by rw [ByteArray.size,Array.length_toList]
theorem Yv {s : ByteArray} {j : Nat} {u : UInt8} (h : s.data.toList[j]? = some u) : Qt s (j : Int) = (u.toNat : Int):=by
 unfold Qt
 rw [Int.toNat_natCast]
 simp [List.getD,h]
theorem EF (s some_ : ByteArray) : ∀ (k : Nat) (m : Nat),k + m = s.size + 1 → s.size ≤ 4611686018427387904 →
  Hs s some_ (some true) (m + 1) (k : Int) = some ((s.data.toList.drop k).all fun b=>some_.data.toList.contains b):=by
 intro k m
 induction m generalizing k with
 | zero =>
  intro h hs
  have h1 : ¬ (k : Int) < (s.size : Int):=by omega
  rw [Hs]
  rw [if_neg (by simpa using h1),List.drop_of_length_le (by rw [← Rx]; omega)]
  rfl
 | succ m ih =>
  intro h hs
  rw [Hs]
  by_cases h1 : (k : Int) < (s.size : Int)
  ·have hk : k < s.data.toList.length:=by rw [← Rx]; omega
   have hget : s.data.toList[k]? = some s.data.toList[k]:=List.getElem?_eq_getElem hk
   rw [if_pos (decide_eq_true h1),Gm (Ju.2 ⟨by omega,h1⟩),List.drop_eq_getElem_cons hk,List.all_cons]
   have hb : decide (Ni some_ (Qt s (k : Int)) < 0) = !some_.data.toList.contains s.data.toList[k]:=by
    unfold Ni
    rw [Yv hget,EE,AA]
   rw [hb]
   cases hc : some_.data.toList.contains s.data.toList[k] with
   | false=>simp
   | true =>
    simp only [Bool.not_true,Bool.false_eq_true,if_false,Bool.true_and]
    have hw : W ((k : Int) + 1) = ((k + 1 : Nat) : Int):=by rw [Oh (by omega) (by omega)]; omega
    rw [hw]
    exact ih (k + 1) (by omega) hs
  ·rw [if_neg (by simpa using h1),List.drop_of_length_le (by rw [← Rx]; omega)]
   rfl
theorem DA (s some_ : ByteArray) (hs : s.size ≤ 4611686018427387904) : Nb s some_ = some (s.data.toList.all fun b=>some_.data.toList.contains b):=by
 unfold Nb
 rw [Nj]
 have h:=EF s some_ 0 (s.size + 1) (by omega) hs
 have e : ((s.size : Int) - 0).toNat + 2 = s.size + 1 + 1:=by omega
 rw [e]
 exact h
theorem Pp {p : UInt8 → Bool} : ∀ {l : List UInt8},l.dropWhile p = [] ↔ l.all p = true
 | []=>by simp
 | a :: l=>by
  rw [List.dropWhile_cons,List.all_cons]
  cases h : p a with
  | true=>simpa [h] using Pp (p:=p) (l:=l)
  | false=>simp
theorem FJ {l cs : List UInt8} : Lib.trimS l cs = [] ↔ l.all (fun b=>cs.contains b) = true:=by
 unfold Lib.trimS Lib.trimLeftS Lib.trimRightS
 rw [Pp,List.all_reverse]
 constructor
 ·intro h
  have h2 : l.reverse.dropWhile (fun x=>cs.contains x) = []:=by
   cases hd : l.reverse.dropWhile (fun x=>cs.contains x) with
   | nil=>rfl
   | cons a r =>
    have h3:=List.head_dropWhile_not (fun x=>cs.contains x) (l:=l.reverse) (by rw [hd]; simp)
    rw [hd] at h
    simp only [hd,List.head_cons] at h3
    rw [List.all_cons,h3] at h
    cases h
  rw [Pp,List.all_reverse] at h2
  exact h2
 ·intro h
  have h2 : l.reverse.dropWhile (fun x=>cs.contains x) = []:=by rw [Pp,List.all_reverse]; exact h
  rw [h2]; rfl
end Go.Proofs.YtcmlfgcnichcdaaGreatDoor
namespace Go.Proofs.YtcmlfgcnichcdaaGreatDoor
open Go

theorem EG (u : UInt8) : Hf.data.toList.contains u = (decide (97 ≤ (u.toNat : Int)) && decide ((u.toNat : Int) ≤ 122)):=by
 have key : ∀ n : Fin 256,Hf.data.toList.contains (UInt8.ofNat n.val) = (decide (97 ≤ (((UInt8.ofNat n.val).toNat : Nat) : Int)) && decide ((((UInt8.ofNat n.val).toNat : Nat) : Int) ≤ 122)):=by decide +kernel
 have h:=key ⟨u.toNat,u.toNat_lt⟩
 simpa using h
theorem EH : (Fj.data.toList.all fun b=>decide (b.toNat < 128)) = true:=by decide +kernel
theorem EI (l : List UInt8) : ((⟨l.toArray⟩ : ByteArray) = Cw) ↔ l = []:=by
 constructor
 ·intro h
  have h2:=congrArg (fun b : ByteArray=>b.data.toList) h
  simpa [Cw] using h2
 ·rintro rfl; rfl
theorem Pe (s : ByteArray) : ∃ b,Im s = some b ∧ Ks s = some b:=by
 by_cases hs : 1 ≤ s.size ∧ s.size ≤ 40
 ·obtain ⟨h1,h2⟩:=hs
  have hsz:=Rx s
  obtain ⟨u,r,hl⟩ : ∃ u r,s.data.toList = u :: r:=by
   cases h : s.data.toList with
   | nil=>rw [h] at hsz; exact absurd hsz (by show ¬ s.size = 0; omega)
   | cons u r=>exact ⟨u,r,rfl⟩
  have hin : Ha (s.size : Int) 1 40 = true:=by unfold Ha; simp; omega
  have hwin : (decide (1 ≤ (s.size : Int)) && decide ((s.size : Int) ≤ 40)) = true:=by simp; omega
  have hb0 : inB 0 s.size = true:=Ju.2 ⟨by omega,by omega⟩
  have hc0 : Wz 0 1 s.size = true:=Re.2 ⟨by omega,by omega,by omega⟩
  have hu : Qt s 0 = (u.toNat : Int):=Yv (j:=0) (by rw [hl]; rfl)
  have hcut : (AI s 0 1).data.toList = [u]:=by
   unfold AI
   simp [hl]
  have hcsz : (AI s 0 1).size ≤ 4611686018427387904:=by rw [Rx,hcut]; simp
  have hall:=DA s Fj (by omega)
  have hone:=DA (AI s 0 1) Hf hcsz
  rw [hcut] at hone
  simp only [List.all_cons,List.all_nil,Bool.and_true,EG] at hone
  have htrim : Ov s Fj = some ⟨(Lib.trimS s.data.toList Fj.data.toList).toArray⟩:=by
   unfold Ov
   rw [Gm (by simp; omega),Gm (by decide +kernel),Gm EH]
  have htr : decide ((⟨(Lib.trimS s.data.toList Fj.data.toList).toArray⟩ : ByteArray) = Cw) = s.data.toList.all fun b=>Fj.data.toList.contains b:=by
   rw [Bool.eq_iff_iff,decide_eq_true_eq,EI,FJ]
  refine ⟨(decide (97 ≤ (u.toNat : Int)) && decide ((u.toNat : Int) ≤ 122)) && s.data.toList.all fun b=>Fj.data.toList.contains b,?_,?_⟩
  ·unfold Im
   simp only [Nj,hwin,if_true,Bool.true_and,Gm hb0,hu]
   by_cases g1 : 97 ≤ (u.toNat : Int)
   ·simp only [g1,decide_true,if_true,Bool.true_and]
    by_cases g2 : (u.toNat : Int) ≤ 122
    ·simp only [g2,decide_true,if_true,Bool.true_and,htrim,Option.bind_some,htr]
    ·simp only [g2,decide_false,Bool.false_eq_true,if_false,Bool.false_and]
   ·simp only [g1,decide_false,Bool.false_eq_true,if_false,Bool.false_and]
  ·unfold Ks
   simp only [Nj,hin,if_true,Bool.true_and,Gm hc0,hone,Option.bind_some]
   cases hz : (decide (97 ≤ (u.toNat : Int)) && decide ((u.toNat : Int) ≤ 122)) with
   | true=>simp only [if_true,hall,Option.bind_some,Bool.true_and]
   | false=>simp only [Bool.false_eq_true,if_false,Bool.false_and]
 ·refine ⟨false,?_,?_⟩
  ·have hwin : (decide (1 ≤ (s.size : Int)) && decide ((s.size : Int) ≤ 40)) = false:=by simp; omega
   unfold Im
   simp only [Nj,hwin,Bool.false_eq_true,if_false,Bool.false_and]
  ·have hin : Ha (s.size : Int) 1 40 = false:=by unfold Ha; simp; omega
   unfold Ks
   simp only [Nj,hin,Bool.false_eq_true,if_false,Bool.false_and]
end Go.Proofs.YtcmlfgcnichcdaaGreatDoor
namespace Go.Proofs.YtcmlfgcnichcdaaGreatDoor
open Go
theorem Xo {κ ν : Type} [DecidableEq κ] (k k' : κ) (v : ν) : ∀ (m : List (κ × ν)) (i : Nat),(Jw (Ff m k v) k' i).map (·.2) = if k' = k then some v else (Jw m k' i).map (·.2)
 | [],i=>by
  by_cases h : k' = k <;> simp [Ff,Jw,h]
 | (q,u) :: m,i=>by
  by_cases h1 : k = q
  ·subst h1
   by_cases h2 : k' = k <;> simp [Ff,Jw,h2]
  ·by_cases h2 : k' = q
   ·subst h2
    simp [Ff,Jw,h1]
    exact fun h=>(h1 h.symm).elim
   ·simp only [Ff,h1,if_false,Jw,h2]
    exact Xo k k' v m (i + 1)
theorem Wy {κ ν : Type} [DecidableEq κ] (m : List (κ × ν)) (k k' : κ) (v d : ν) : Dw (Ff m k v) k' d = if k' = k then v else Dw m k' d:=by
 unfold Dw Nv
 rw [Xo]
 split <;> simp
end Go.Proofs.YtcmlfgcnichcdaaGreatDoor
namespace Go.Proofs.YtcmlfgcnichcdaaGreatDoor
open Go
theorem Mp {κ R : Type} (K : κ) (f : κ → R) : Fu K f = f K:=rfl
theorem BX {R : Type} {c : Bool} {k : Option R} (h : c = true) : Chk c k = k:=by subst h; rfl
section
variable {α R : Type}
variable [Inhabited α]
theorem AB (a : List α) (y : α) (b : List α) {e : Int} (he : e = (a.length : Int)) : nth (a ++ y :: b) e = y:=by
 subst he
 simp [nth]
def Ry (lt : α → α → Bool) (x : α) : List α → List α
 | []=>[x]
 | y :: r=>if lt x y then y :: Ry lt x r else x :: y :: r
def Tg (lt : α → α → Bool) (l rp : List α) : List α:=l.foldl (fun rp x=>Ry lt x rp) rp
def Sr (lt : α → α → Bool) (l : List α) : List α:=(Tg lt l []).reverse
omit [Inhabited α] in
theorem Th (lt : α → α → Bool) (x : α) : ∀ l : List α,(Ry lt x l).length = l.length + 1
 | []=>rfl
 | y :: r=>by
  unfold Ry
  split
  ·simp [Th lt x r]
  ·rfl
omit [Inhabited α] in
theorem Vd (lt : α → α → Bool) (x z : α) : ∀ l : List α,z ∈ Ry lt x l ↔ z = x ∨ z ∈ l
 | []=>by simp [Ry]
 | y :: r=>by
  unfold Ry
  split
  ·simp only [List.mem_cons,Vd lt x z r]
   constructor
   ·rintro (h | h | h)
    ·exact .inr (.inl h)
    ·exact .inl h
    ·exact .inr (.inr h)
   ·rintro (h | h | h)
    ·exact .inr (.inl h)
    ·exact .inl h
    ·exact .inr (.inr h)
  ·simp
theorem FK (C : α → α → (Bool → Option R) → Option R) (lt : α → α → Bool) (j : List α → Option R) (F : Nat → List α → Int → Option R)
  (h : ∀ m x i,F (m + 1) x i = if decide (0 < i) then Chk (inB i x.length) (Chk (inB (W (i - 1)) x.length) (C (nth x i) (nth x (W (i - 1))) (fun b=>if b then
   Chk (inB (W (i - 1)) x.length) (Chk (inB i x.length) (Chk (inB i x.length) (Chk (inB (W (i - 1)) (x.set i.toNat (nth x (W (i - 1)))).length) (F m ((x.set i.toNat (nth x (W (i - 1)))).set (W (i - 1)).toNat (nth x i)) (W (i - 1)))))) else j x))) else j x) :
  ∀ (rp : List α) (x : α) (post : List α) (m : Nat),rp.length < m → rp.length + post.length < 1073741824 → (∀ y ∈ rp,∀ k,C x y k = k (lt x y)) →
   F m (rp.reverse ++ x :: post) (rp.length : Int) = j ((Ry lt x rp).reverse ++ post)
 | [],x,post,m,h1,h2,_=>by
  obtain ⟨m,rfl⟩ : ∃ q,m = q + 1:=⟨m - 1,by omega⟩
  rw [h,if_neg (by simp)]
  rfl
 | y :: r,x,post,m,h1,h2,hC=>by
  obtain ⟨m,rfl⟩ : ∃ q,m = q + 1:=⟨m - 1,by omega⟩
  simp only [List.length_cons] at h1 h2
  have e0 : (y :: r).reverse ++ x :: post = r.reverse ++ y :: x :: post:=by simp
  have e0' : r.reverse ++ y :: x :: post = (r.reverse ++ [y]) ++ x :: post:=by simp
  have wi : W ((((y :: r).length : Nat) : Int) - 1) = (r.length : Int):=by rw [Oh (by simp only [List.length_cons]; omega) (by simp only [List.length_cons]; omega)]; simp
  have n1 : nth (r.reverse ++ y :: x :: post) (((y :: r).length : Nat) : Int) = x:=by rw [e0']; exact AB _ _ _ (by simp)
  have n2 : nth (r.reverse ++ y :: x :: post) (r.length : Int) = y:=AB _ _ _ (by simp)
  have b1 : inB (((y :: r).length : Nat) : Int) (r.reverse ++ y :: x :: post).length = true:=Ju.2 ⟨by omega,by simp; omega⟩
  have b2 : inB (r.length : Int) (r.reverse ++ y :: x :: post).length = true:=Ju.2 (by simp; omega)
  rw [h,e0,if_pos (decide_eq_true (by simp only [List.length_cons]; omega)),wi,BX b1,BX b2,n1,n2,hC y List.mem_cons_self]
  unfold Ry
  cases hb : lt x y with
  | true =>
   simp only [if_true]
   rw [BX b2,BX b1,BX b1,BX (by rw [List.length_set]; exact b2)]
   have e1 : ((r.reverse ++ y :: x :: post).set (((y :: r).length : Nat) : Int).toNat y).set (r.length : Int).toNat x = r.reverse ++ x :: (y :: post):=by
    have e2 : (r.reverse ++ y :: x :: post).set (((y :: r).length : Nat) : Int).toNat y = r.reverse ++ y :: y :: post:=by
     rw [e0',show (((y :: r).length : Nat) : Int).toNat = (r.reverse ++ [y]).length by simp,List.set_append_right _ _ (Nat.le_refl _)]
     simp
    rw [e2,show (r.length : Int).toNat = r.reverse.length by simp,List.set_append_right _ _ (Nat.le_refl _)]
    simp
   rw [e1,FK C lt j F h r x (y :: post) m (by omega) (by simp; omega) (fun z hz=>hC z (List.mem_cons_of_mem _ hz))]
   simp
  | false=>simp
omit [Inhabited α] in
theorem AC (lt : α → α → Bool) (j : List α → Option R) (G : (List α → Option R) → List α → Int → Option R) (F : Nat → List α → Int → Option R) (n : Int)
  (h : ∀ m x i,F (m + 1) x i = if decide (i < n) then G (fun x=>F m x (W (i + 1))) x i else j x)
  (hG : ∀ k (rp : List α) (x : α) (post : List α),((rp ++ x :: post).length : Int) = n → (∀ y,y ∈ rp ∨ y = x ∨ y ∈ post → y ∈ (rp ++ x :: post)) → G k (rp.reverse ++ x :: post) (rp.length : Int) = k ((Ry lt x rp).reverse ++ post)) :
  ∀ (rest rp : List α) (m : Nat),rest.length < m → ((rp.length + rest.length : Nat) : Int) = n → rp.length + rest.length < 1073741824 →
   F m (rp.reverse ++ rest) (rp.length : Int) = j (Tg lt rest rp).reverse
 | [],rp,m,h1,h2,_=>by
  obtain ⟨m,rfl⟩ : ∃ q,m = q + 1:=⟨m - 1,by omega⟩
  rw [h,if_neg (by simp at h2; simp; omega)]
  simp [Tg]
 | x :: r,rp,m,h1,h2,h3=>by
  obtain ⟨m,rfl⟩ : ∃ q,m = q + 1:=⟨m - 1,by omega⟩
  simp only [List.length_cons] at h1 h2 h3
  rw [h,if_pos (by simp; omega),hG _ rp x r (by simp; omega) (fun y hy=>by simpa using hy),show W ((rp.length : Int) + 1) = ((Ry lt x rp).length : Int) by rw [Oh (by omega) (by omega),Th]; rfl,
   AC lt j G F n h hG r (Ry lt x rp) m (by omega) (by rw [Th]; omega) (by rw [Th]; omega)]
  rfl
omit [Inhabited α] in
theorem Yw (lt : α → α → Bool) (z : α) : ∀ l rp : List α,z ∈ Tg lt l rp ↔ z ∈ l ∨ z ∈ rp
 | [],rp=>by simp [Tg]
 | x :: l,rp=>by
  show z ∈ Tg lt l (Ry lt x rp) ↔ _
  rw [Yw lt z l,Vd]
  simp only [List.mem_cons]
  constructor
  ·rintro (h | h | h)
   ·exact .inl (.inr h)
   ·exact .inl (.inl h)
   ·exact .inr h
  ·rintro ((h | h) | h)
   ·exact .inr (.inl h)
   ·exact .inl h
   ·exact .inr (.inr h)
omit [Inhabited α] in
end
end Go.Proofs.YtcmlfgcnichcdaaGreatDoor
namespace Go.Proofs.YtcmlfgcnichcdaaGreatDoor
open Go
section
variable {α β R : Type}
variable [DecidableEq α] [Inhabited α]
theorem eq_l (l : List α) (F : List α → Nat → Option Bool) (h0 : ∀ i,F [] i = some true) (h1 : ∀ y ys i,F (y :: ys) i = Chk (inB (i : Int) l.length) (if !decide (y = nth l (i : Int)) then some false else F ys (i + 1))) : ∀ (ys dn : List α),l = dn ++ ys → F ys dn.length = some true
 | [],dn,_=>h0 _
 | y :: ys,dn,h=>by
  have hlen : l.length = dn.length + (ys.length + 1):=by rw [h]; simp
  have hn : nth l (dn.length : Int) = y:=by rw [h]; exact AB _ _ _ rfl
  have ih:=eq_l l F h0 h1 ys (dn ++ [y]) (by rw [h]; simp)
  rw [List.length_append] at ih
  rw [h1,BX (Ju.2 (by omega)),hn]
  simpa using ih
end
section
variable {α R : Type} [Inhabited α]
end
end Go.Proofs.YtcmlfgcnichcdaaGreatDoor
namespace Go.Proofs.YtcmlfgcnichcdaaGreatDoor
open Go
theorem DB : ∀ l : List UInt8,Lib.compareBytes l l = 0
 | []=>rfl
 | a :: l=>by
  rw [Lib.compareBytes,if_neg (by simp),if_neg (by simp)]; exact DB l
theorem DC : ∀ l m : List UInt8,Lib.compareBytes l m = 0 → l = m
 | [],[],_=>rfl
 | [],_ :: _,h=>by simp [Lib.compareBytes] at h
 | _ :: _,[],h=>by simp [Lib.compareBytes] at h
 | a :: l,b :: m,h=>by
  rw [Lib.compareBytes] at h
  split at h
  ·cases h
  ·split at h
   ·cases h
   ·rename_i h1 h2
    rw [UInt8.lt_iff_toNat_lt] at h1 h2
    rw [DC l m h,show a = b from UInt8.toNat_inj.1 (by omega)]
theorem FL : ∀ l m : List UInt8,Lib.compareBytes l m = -1 ∨ Lib.compareBytes l m = 0 ∨ Lib.compareBytes l m = 1
 | [],[]=>.inr (.inl rfl)
 | [],_ :: _=>.inl rfl
 | _ :: _,[]=>.inr (.inr rfl)
 | a :: l,b :: m=>by
  rw [Lib.compareBytes]
  split
  ·exact .inl rfl
  ·split
   ·exact .inr (.inr rfl)
   ·exact FL l m
theorem DD : ∀ l m : List UInt8,Lib.compareBytes m l = - Lib.compareBytes l m
 | [],[]=>rfl
 | [],_ :: _=>rfl
 | _ :: _,[]=>rfl
 | a :: l,b :: m=>by
  rw [Lib.compareBytes,Lib.compareBytes,DD l m]
  simp only [UInt8.lt_iff_toNat_lt]
  by_cases h1 : a.toNat < b.toNat
  ·rw [if_neg (by omega),if_pos h1,if_pos h1]; rfl
  ·by_cases h2 : b.toNat < a.toNat
   ·rw [if_pos h2,if_neg h1,if_pos h2]
   ·rw [if_neg h2,if_neg h1,if_neg h1,if_neg h2]
theorem AX : ∀ l m k : List UInt8,Lib.compareBytes l m < 0 → Lib.compareBytes m k < 0 → Lib.compareBytes l k < 0
 | l,m,[],_,h=>by cases m <;> simp [Lib.compareBytes] at h
 | [],m,c :: k,_,_=>by simp [Lib.compareBytes]
 | a :: l,[],c :: k,h,_=>by simp [Lib.compareBytes] at h
 | a :: l,b :: m,c :: k,h1,h2=>by
  rw [Lib.compareBytes] at h1 h2 ⊢
  simp only [UInt8.lt_iff_toNat_lt] at h1 h2 ⊢
  by_cases g1 : a.toNat < b.toNat
  ·by_cases g2 : c.toNat < b.toNat
   ·rw [if_neg (by omega),if_pos g2] at h2; cases h2
   ·rw [if_pos (by omega)]; decide
  ·by_cases g1' : b.toNat < a.toNat
   ·rw [if_neg g1,if_pos g1'] at h1; cases h1
   ·rw [if_neg g1,if_neg g1'] at h1
    by_cases g2 : b.toNat < c.toNat
    ·rw [if_pos (by omega)]; decide
    ·by_cases g3 : c.toNat < b.toNat
     ·rw [if_neg g2,if_pos g3] at h2; cases h2
     ·rw [if_neg g2,if_neg g3] at h2
      rw [if_neg (by omega),if_neg (by omega)]
      exact AX l m k h1 h2
def cB (s t : ByteArray) : Int:=Lib.compareBytes s.data.toList t.data.toList
theorem Sm (s : ByteArray) : cB s s = 0:=DB _
theorem Ve {s t : ByteArray} (h : cB s t = 0) : s = t:=by
 have:=DC _ _ h
 cases s; cases t
 simpa using this
theorem FM (s t : ByteArray) : cB s t = -1 ∨ cB s t = 0 ∨ cB s t = 1:=FL _ _
theorem DE (s t : ByteArray) : cB t s = - cB s t:=DD _ _
theorem AY {s t u : ByteArray} (h1 : cB s t < 0) (h2 : cB t u < 0) : cB s u < 0:=AX _ _ _ h1 h2
end Go.Proofs.YtcmlfgcnichcdaaGreatDoor
namespace Go.Proofs.YtcmlfgcnichcdaaGreatDoor
open Go
structure DG (d : An) : Prop where
 no : 1 ≤ d.No ∧ d.No ≤ 1000000
 at_ : 0 ≤ d.At ∧ d.At < 345686400000
 kind : d.Kind = 1 ∨ d.Kind = 2 ∨ d.Kind = 3 ∨ d.Kind = 4
 site : Im d.Site = some true
 who : d.Kind ≠ 4 → Im d.Who = some true ∧ Im d.Race = some true
 club : d.Kind = 1 → d.Club = Cw ∨ Im d.Club = some true
 time : d.Kind = 1 ∨ d.Kind = 3 → 0 ≤ d.Time ∧ d.Time ≤ 360000
 fault : d.Kind = 3 → 0 ≤ d.Fault ∧ d.Fault ≤ 8
 of_ : d.Kind = 4 → Im d.Of = some true ∧ 1 ≤ d.Other ∧ d.Other ≤ 1000000
 form : d = if d.Kind = 1 then An.mk d.Site d.No d.At d.Kind d.Who d.Club d.Race d.Time 0 Cw 0 else
  if d.Kind = 3 then An.mk d.Site d.No d.At d.Kind d.Who Cw d.Race d.Time d.Fault Cw 0 else
  if d.Kind = 4 then An.mk d.Site d.No d.At d.Kind Cw Cw Cw 0 0 d.Of d.Other else An.mk d.Site d.No d.At d.Kind d.Who Cw d.Race 0 0 Cw 0
theorem inW {n l h : Int} : Dd n l h = true ↔ l ≤ n ∧ n ≤ h:=by unfold Dd; simp
theorem Yx (d : An) : ∃ e,Kb d = some e ∧ Jr d = some e ∧ (e = 0 → DG d):=by
 obtain ⟨kS,s1,s2⟩:=Pe d.Site
 obtain ⟨kW,w1,w2⟩:=Pe d.Who
 obtain ⟨kR,r1,r2⟩:=Pe d.Race
 obtain ⟨kC,c1,c2⟩:=Pe d.Club
 obtain ⟨kO,o1,o2⟩:=Pe d.Of
 have hw : Ha = Dd:=rfl
 have hm : Hg d.At = Gf d.At:=by
  unfold Hg Ha Gf
  congr 1
  exact decide_eq_decide.2 (by omega)
 unfold Kb Jr
 simp only [s1,s2,w1,w2,r1,r2,c1,c2,o1,o2,hw,hm,Nj,Option.bind_some]
 cases kS with
 | false=>exact ⟨5,by simp,by simp,fun h=>by cases h⟩
 | true =>
  simp only [Bool.not_true,Bool.false_eq_true,if_false]
  by_cases hA : (!Dd d.No 1 1000000 || !Gf d.At) = true
  ·rw [if_pos hA,if_pos hA]; exact ⟨1,rfl,rfl,fun h=>by cases h⟩
  ·rw [if_neg hA,if_neg hA]
   simp only [Bool.or_eq_true,not_or,Bool.not_eq_true,Bool.not_eq_false'] at hA
   have hno:=inW.1 hA.1
   have hat : 0 ≤ d.At ∧ d.At < 345686400000:=by have:=hA.2; unfold Gf at this; simpa using this
   by_cases hK : (!Dd d.Kind 1 4) = true
   ·rw [if_pos hK,if_pos hK]; exact ⟨4,rfl,rfl,fun h=>by cases h⟩
   ·rw [if_neg hK,if_neg hK]
    have hk4 : d.Kind = 1 ∨ d.Kind = 2 ∨ d.Kind = 3 ∨ d.Kind = 4:=by
     have:=inW.1 (by simpa using hK : Dd d.Kind 1 4 = true)
     omega
    rcases hk4 with hk | hk | hk | hk
    ·simp only [hk,show decide ((1 : Int) = 1) = true from rfl,show decide ((1 : Int) = 3) = false from rfl,show decide ((1 : Int) = 4) = false from rfl]
     cases kW <;> cases kR <;> cases kC <;> cases hc : decide (d.Club = Cw) <;> cases ht : Dd d.Time 0 360000 <;> cases hf : decide (d = An.mk d.Site d.No d.At 1 d.Who d.Club d.Race d.Time 0 Cw 0) <;> (try simp only [decide_true,decide_false,Bool.not_true,Bool.not_false,Bool.true_and,Bool.false_and,Bool.and_true,Bool.and_false,Bool.or_false,Bool.false_or,Bool.true_or,Bool.or_true,Bool.and_self,Bool.or_self,if_true,Bool.false_eq_true,if_false]) <;>
      first | exact ⟨5,rfl,rfl,fun h=>by cases h⟩ | exact ⟨1,rfl,rfl,fun h=>by cases h⟩ | exact ⟨3,rfl,rfl,fun h=>by cases h⟩ |
       exact ⟨0,rfl,rfl,fun _=>⟨hno,hat,by omega,s1,fun _=>⟨w1,r1⟩,fun _=>by first | exact .inl (of_decide_eq_true hc) | exact .inr c1,fun _=>inW.1 ht,fun h=>by omega,fun h=>by omega,by rw [if_pos hk,hk]; exact of_decide_eq_true hf⟩⟩
    ·simp only [hk,show decide ((2 : Int) = 1) = false from rfl,show decide ((2 : Int) = 3) = false from rfl,show decide ((2 : Int) = 4) = false from rfl]
     cases kW <;> cases kR <;> cases hf : decide (d = An.mk d.Site d.No d.At 2 d.Who Cw d.Race 0 0 Cw 0) <;> (try simp only [decide_true,decide_false,Bool.not_true,Bool.not_false,Bool.true_and,Bool.false_and,Bool.and_true,Bool.and_false,Bool.or_false,Bool.false_or,Bool.true_or,Bool.or_true,Bool.and_self,Bool.or_self,if_true,Bool.false_eq_true,if_false]) <;>
      first | exact ⟨5,rfl,rfl,fun h=>by cases h⟩ | exact ⟨1,rfl,rfl,fun h=>by cases h⟩ | exact ⟨3,rfl,rfl,fun h=>by cases h⟩ |
       exact ⟨0,rfl,rfl,fun _=>⟨hno,hat,by omega,s1,fun _=>⟨w1,r1⟩,fun h=>by omega,fun h=>by omega,fun h=>by omega,fun h=>by omega,by rw [if_neg (by omega),if_neg (by omega),if_neg (by omega),hk]; exact of_decide_eq_true hf⟩⟩
    ·simp only [hk,show decide ((3 : Int) = 1) = false from rfl,show decide ((3 : Int) = 3) = true from rfl,show decide ((3 : Int) = 4) = false from rfl]
     cases kW <;> cases kR <;> cases ht : Dd d.Time 0 360000 <;> cases hu : Dd d.Fault 0 8 <;> cases hf : decide (d = An.mk d.Site d.No d.At 3 d.Who Cw d.Race d.Time d.Fault Cw 0) <;> (try simp only [decide_true,decide_false,Bool.not_true,Bool.not_false,Bool.true_and,Bool.false_and,Bool.and_true,Bool.and_false,Bool.or_false,Bool.false_or,Bool.true_or,Bool.or_true,Bool.and_self,Bool.or_self,if_true,Bool.false_eq_true,if_false]) <;>
      first | exact ⟨5,rfl,rfl,fun h=>by cases h⟩ | exact ⟨1,rfl,rfl,fun h=>by cases h⟩ | exact ⟨3,rfl,rfl,fun h=>by cases h⟩ |
       exact ⟨0,rfl,rfl,fun _=>⟨hno,hat,by omega,s1,fun _=>⟨w1,r1⟩,fun h=>by omega,fun _=>inW.1 ht,fun _=>inW.1 hu,fun h=>by omega,by rw [if_neg (by omega),if_pos hk,hk]; exact of_decide_eq_true hf⟩⟩
    ·simp only [hk,show decide ((4 : Int) = 1) = false from rfl,show decide ((4 : Int) = 3) = false from rfl,show decide ((4 : Int) = 4) = true from rfl]
     cases kO <;> cases ho : Dd d.Other 1 1000000 <;> cases hf : decide (d = An.mk d.Site d.No d.At 4 Cw Cw Cw 0 0 d.Of d.Other) <;> (try simp only [decide_true,decide_false,Bool.not_true,Bool.not_false,Bool.true_and,Bool.false_and,Bool.and_true,Bool.and_false,Bool.or_false,Bool.false_or,Bool.true_or,Bool.or_true,Bool.and_self,Bool.or_self,if_true,Bool.false_eq_true,if_false]) <;>
      first | exact ⟨5,rfl,rfl,fun h=>by cases h⟩ | exact ⟨1,rfl,rfl,fun h=>by cases h⟩ | exact ⟨3,rfl,rfl,fun h=>by cases h⟩ |
       exact ⟨0,rfl,rfl,fun _=>⟨hno,hat,by omega,s1,fun h=>absurd hk h,fun h=>by omega,fun h=>by omega,fun h=>by omega,fun _=>⟨o1,inW.1 ho⟩,by rw [if_neg (by omega),if_neg (by omega),if_pos hk,hk]; exact of_decide_eq_true hf⟩⟩
theorem Xp (y : An) : ∀ (l : List An) (i : Nat),decide (0 ≤ Dk y (-1) l i) = decide (Cx y ∈ l.map Cx)
 | [],i=>by simp [Dk]
 | z :: l,i=>by
  have ih:=Xp y l (i + 1)
  rw [Dk]
  have hp : Ka z y = decide (Cx y = Cx z):=by
   unfold Ka Ls Cx
   rw [Bool.eq_iff_iff]
   simp only [Bool.and_eq_true,decide_eq_true_eq,Cz.mk.injEq]
   exact ⟨fun h=>⟨h.1.symm,h.2.symm⟩,fun h=>⟨h.1.symm,h.2.symm⟩⟩
  rw [hp]
  by_cases h : Cx y = Cx z
  ·rw [if_pos (decide_eq_true h),decide_eq_true (show 0 ≤ (i : Int) by omega),decide_eq_true (by simp [h])]
  ·rw [if_neg (by simpa using h),ih]
   exact decide_eq_decide.2 (by simp [h])
theorem Yy (l : List An) : ∀ (ys dn : List An),l = dn ++ ys → (dn.map Cx).Nodup → Ga l (some 0) ys dn.length = some (if (l.map Cx).Nodup then 0 else 6)
 | [],dn,h,hd=>by
  rw [List.append_nil] at h
  subst h
  rw [if_pos hd]; rfl
 | y :: ys,dn,h,hd=>by
  have hlen : l.length = dn.length + (ys.length + 1):=by rw [h]; simp
  rw [Ga,Gm (Re.2 (by omega))]
  have hc : cut l 0 (dn.length : Int) = dn:=by unfold cut; rw [h]; simp
  have hq : Gh dn y = decide (Cx y ∈ dn.map Cx):=Xp y dn 0
  rw [hc,hq]
  by_cases hm : Cx y ∈ dn.map Cx
  ·rw [if_pos (decide_eq_true hm),if_neg]
   intro hn
   rw [h,List.map_append,List.nodup_append] at hn
   exact hn.2.2 _ hm _ (by simp) rfl
  ·rw [if_neg (by simpa using hm)]
   have ih:=Yy l ys (dn ++ [y]) (by rw [h]; simp) (by
    rw [List.map_append,List.nodup_append]
    refine ⟨hd,by simp,?_⟩
    intro a ha b hb
    simp only [List.map_cons,List.map_nil,List.mem_singleton] at hb
    subst hb
    exact fun e=>hm (e ▸ ha))
   rwa [List.length_append] at ih
theorem cmpID (x y : Int) : Eu x y = if x < y then -1 else if y < x then 1 else 0:=by
 unfold Eu Lh
 simp
theorem orD3 (a b c : Int) : Oj [a,b,c] = if a ≠ 0 then a else if b ≠ 0 then b else c:=by
 unfold Oj
 simp only [Nj,Jc]
 by_cases h1 : a = 0
 ·by_cases h2 : b = 0
  ·by_cases h3 : c = 0 <;> simp [h1,h2,h3]
  ·simp [h1,h2]
 ·simp [h1]
theorem Xq (p q : An) : Ex p q = if p.At < q.At then -1 else if q.At < p.At then 1 else if cB p.Site q.Site ≠ 0 then cB p.Site q.Site else if p.No < q.No then -1 else if q.No < p.No then 1 else 0:=by
 unfold Ex
 rw [orD3,cmpID,cmpID]
 have hc : Gi p.Site q.Site = cB p.Site q.Site:=rfl
 rw [hc]
 by_cases h1 : p.At < q.At
 ·simp [h1]
 ·by_cases h2 : q.At < p.At
  ·simp [h1,h2]
  ·simp [h1,h2]
theorem orderD (p q : An) (hp : DG p) (hq : DG q) : Ea p q = Ex p q:=by
 rw [Xq]
 have a1:=hp.no
 have a2:=hp.at_
 have b1:=hq.no
 have b2:=hq.at_
 unfold Ea Lg
 have hc : Gi p.Site q.Site = cB p.Site q.Site:=rfl
 have hW1 : W (p.At - q.At) = p.At - q.At:=Oh (by omega) (by omega)
 have hW2 : W (p.No - q.No) = p.No - q.No:=Oh (by omega) (by omega)
 rw [hc,hW1,hW2]
 simp only [decide_eq_true_eq,Bool.not_eq_true',decide_eq_false_iff_not]
 by_cases h1 : p.At = q.At
 ·rw [if_neg (fun h=>h h1),if_neg (show ¬ p.At < q.At by omega),if_neg (show ¬ q.At < p.At by omega)]
  by_cases h2 : p.Site = q.Site
  ·simp only [h2,Sm,not_true_eq_false,if_false,ne_eq]
   split <;> split <;> (try split) <;> (try split) <;> omega
  ·rw [if_pos h2,if_pos (fun e=>h2 (Ve e))]
 ·rw [if_pos h1]
  split <;> split <;> (try split) <;> (try split) <;> omega
abbrev BY (l : List An) : Prop:=∀ d x y r,l = d ++ x :: y :: r → Ex x y < 0
theorem FN (l : List An) (hl : l.length ≤ 1000000) (j : List (Cz × Bool) → Bool → Option Int) (j' : Option Int) : ∀ (ys dn : List An) (m : List (Cz × Bool)) (t : Bool),l = dn ++ ys → (∀ x ∈ dn,DG x) →
  (∀ e,Dw m e false = decide (e ∈ dn.map Cx)) → t = decide (¬ (dn.map Cx).Nodup) → (∀ d x y r,dn = d ++ x :: y :: r → Ex x y < 0) →
  (∃ e,e ≠ 0 ∧ Fp l j ys dn.length m t = some e ∧ Fk l j' ys dn.length = some e) ∨
  (∃ m',Fp l j ys dn.length m t = j m' (decide (¬ (l.map Cx).Nodup)) ∧ Fk l j' ys dn.length = j' ∧ (∀ x ∈ l,DG x) ∧ BY l)
 | [],dn,m,t,h,hg,hm,ht,ha=>by
  rw [List.append_nil] at h
  subst h
  exact .inr ⟨m,by rw [Fp,ht],rfl,hg,ha⟩
 | y :: ys,dn,m,t,h,hg,hm,ht,ha=>by
  have hlen : l.length = dn.length + (ys.length + 1):=by rw [h]; simp
  obtain ⟨e,e1,e2,e3⟩:=Yx y
  rw [Fp,Fk,e1,e2]
  simp only [Option.bind_some,Nj]
  by_cases he : e = 0
  ·subst he
   have hy:=e3 rfl
   simp only [decide_true,Bool.not_true,Bool.false_eq_true,if_false]
   have go : (∀ d x,dn = d ++ [x] → Ex x y < 0) →
     (∃ e,e ≠ 0 ∧ Fp l j ys (dn.length + 1) (Ff m (Cx y) true) (t || Dw m (Cx y) false) = some e ∧ Fk l j' ys (dn.length + 1) = some e) ∨
     (∃ m',Fp l j ys (dn.length + 1) (Ff m (Cx y) true) (t || Dw m (Cx y) false) = j m' (decide (¬ (l.map Cx).Nodup)) ∧ Fk l j' ys (dn.length + 1) = j' ∧ (∀ x ∈ l,DG x) ∧ BY l):=fun hadj=>by
    have:=FN l hl j j' ys (dn ++ [y]) (Ff m (Cx y) true) (t || Dw m (Cx y) false) (by rw [h]; simp) (fun x hx=>by
     rcases List.mem_append.1 hx with hx | hx
     ·exact hg x hx
     ·obtain rfl:=List.mem_singleton.1 hx; exact hy) (fun e=>by
     rw [Wy,hm e]
     by_cases h1 : e = Cx y
     ·rw [if_pos h1]; exact (decide_eq_true (by simp [h1])).symm
     ·rw [if_neg h1]; exact decide_eq_decide.2 (by simp [h1])) (by
     rw [ht,hm,Bool.eq_iff_iff]
     simp only [Bool.or_eq_true,decide_eq_true_eq,List.map_append,List.map_cons,List.map_nil,List.nodup_append]
     constructor
     ·rintro (h1 | h1) h2
      ·exact h1 h2.1
      ·exact h2.2.2 _ h1 _ (by simp) rfl
     ·intro h1
      by_cases h2 : (dn.map Cx).Nodup
      ·refine .inr (Classical.byContradiction fun h3=>h1 ⟨h2,by simp,fun a ha b hb=>?_⟩)
       obtain rfl:=List.mem_singleton.1 hb
       exact fun e=>h3 (e ▸ ha)
      ·exact .inl h2) (fun d x z r hd=>by
     rcases List.eq_nil_or_concat r with rfl | ⟨r',b,rfl⟩
     ·have h1 : dn ++ [y] = (d ++ [x]) ++ [z]:=by rw [hd]; simp
      obtain ⟨h2,h3⟩:=List.append_inj' h1 rfl
      obtain rfl:=(List.cons.inj h3).1
      exact hadj d x h2
     ·have h1 : dn ++ [y] = (d ++ x :: z :: r') ++ [b]:=by rw [hd]; simp
      exact ha d x z r' (List.append_inj' h1 rfl).1)
    rwa [List.length_append,List.length_singleton] at this
   by_cases h0 : (0 : Int) < (dn.length : Int)
   ·obtain ⟨d,x,hdx⟩ : ∃ d x,dn = d ++ [x]:=by
     rcases List.eq_nil_or_concat dn with h1 | ⟨d,x,h1⟩
     ·rw [h1] at h0; simp at h0
     ·exact ⟨d,x,by rw [h1]; simp⟩
    have hdl : dn.length = d.length + 1:=by rw [hdx]; simp
    have hw : W ((dn.length : Int) - 1) = (d.length : Int):=by rw [Oh (by omega) (by omega)]; omega
    have hn : nth l (d.length : Int) = x:=by rw [h,hdx]; unfold nth; simp
    have hx:=hg x (by rw [hdx]; simp)
    simp only [h0,decide_true,if_true,hw,Gm (show inB (d.length : Int) l.length = true from Ju.2 (by omega)),hn,orderD x y hx hy]
    by_cases hc : 0 ≤ Ex x y
    ·rw [if_pos (decide_eq_true hc),if_pos (decide_eq_true hc)]
     exact .inl ⟨7,by decide,rfl,rfl⟩
    ·rw [if_neg (by simpa using hc),if_neg (by simpa using hc)]
     refine go fun d' x' h'=>?_
     rw [hdx] at h'
     obtain ⟨_,h3⟩:=List.append_inj' h' rfl
     obtain rfl:=(List.cons.inj h3).1
     omega
   ·simp only [h0,decide_false,Bool.false_eq_true,if_false]
    refine go fun d' x' h'=>?_
    rw [h'] at h0
    simp at h0
  ·rw [if_pos (by simpa using he),if_pos (by simpa using he)]
   exact .inl ⟨e,he,rfl,rfl⟩
structure DsG (l : List An) : Prop where
 len : l.length ≤ 2000
 each : ∀ x ∈ l,DG x
 adj : BY l
 nodup : (l.map Cx).Nodup
theorem Xr (l : List An) : ∃ e,Gu l = some e ∧ Il l = some e ∧ (e = 0 → DsG l):=by
 unfold Gu Il
 by_cases h : 2000 < (l.length : Int)
 ·rw [if_pos (decide_eq_true h),if_pos (decide_eq_true h)]; exact ⟨2,rfl,rfl,fun h=>by cases h⟩
 ·rw [if_neg (by simpa using h),if_neg (by simpa using h)]
  simp only [Nj]
  have h2:=Yy l l [] rfl List.nodup_nil
  rcases FN l (by omega) (fun x1 x2=>if x2 then some 6 else some 0) (Ga l (some 0) l 0) l [] [] false rfl (by simp) (fun e=>by simp [Dw,Nv,Jw]) (by simp) (by simp) with ⟨e,he,q1,q2⟩ | ⟨m',q1,q2,q3,q4⟩
  ·exact ⟨e,q1,q2,fun h=>absurd h he⟩
  ·rw [show ([] : List An).length = 0 from rfl] at q1 q2 h2
   rw [q1,q2,h2]
   by_cases hn : (l.map Cx).Nodup
   ·exact ⟨0,by simp [hn],by simp [hn],fun _=>⟨by omega,q3,q4,hn⟩⟩
   ·exact ⟨6,by simp [hn],by simp [hn],fun h=>by cases h⟩
end Go.Proofs.YtcmlfgcnichcdaaGreatDoor
namespace Go.Proofs.YtcmlfgcnichcdaaGreatDoor
open Go
section
variable {α : Type}
theorem Yz {lt : α → α → Bool} (ht : ∀ x y z,lt x y = true → lt y z = true → lt x z = true) (x : α) : ∀ rp : List α,rp.Pairwise (fun a b=>lt b a = true) → (∀ y ∈ rp,lt x y = false → lt y x = true) → (Ry lt x rp).Pairwise fun a b=>lt b a = true
 | [],_,_=>by simp [Ry]
 | y :: r,h,hx=>by
  rw [List.pairwise_cons] at h
  unfold Ry
  cases hxy : lt x y with
  | true =>
   rw [if_pos rfl]
   refine List.pairwise_cons.2 ⟨fun z hz=>?_,Yz ht x r h.2 fun z hz=>hx z (List.mem_cons_of_mem _ hz)⟩
   rcases (Vd lt x z r).1 hz with rfl | hz
   ·exact hxy
   ·exact h.1 z hz
  | false =>
   rw [if_neg (by simp)]
   have h1:=hx y (by simp) hxy
   refine List.pairwise_cons.2 ⟨fun z hz=>?_,List.pairwise_cons.2 h⟩
   rcases List.mem_cons.1 hz with rfl | hz
   ·exact h1
   ·exact ht z y x (h.1 z hz) h1
theorem Xs {lt : α → α → Bool} (ht : ∀ x y z,lt x y = true → lt y z = true → lt x z = true) : ∀ l rp : List α,rp.Pairwise (fun a b=>lt b a = true) → (∀ x ∈ l,∀ y ∈ rp,lt x y = false → lt y x = true) → l.Pairwise (fun a b=>lt b a = false → lt a b = true) →
  (Tg lt l rp).Pairwise fun a b=>lt b a = true
 | [],rp,h,_,_=>h
 | x :: l,rp,h,h1,h2=>by
  rw [List.pairwise_cons] at h2
  show (Tg lt l (Ry lt x rp)).Pairwise _
  refine Xs ht l _ (Yz ht x rp h (h1 x (by simp))) (fun z hz y hy=>?_) h2.2
  rcases (Vd lt x y rp).1 hy with rfl | hy
  ·exact h2.1 z hz
  ·exact h1 z (List.mem_cons_of_mem _ hz) y hy
theorem Za {lt : α → α → Bool} (ht : ∀ x y z,lt x y = true → lt y z = true → lt x z = true) (l : List α) (h : l.Pairwise fun a b=>lt b a = false → lt a b = true) : (Sr lt l).Pairwise fun a b=>lt a b = true:=by
 unfold Sr
 rw [List.pairwise_reverse]
 exact Xs ht l [] List.Pairwise.nil (fun _ _ _ h=>by cases h) h
theorem Vz (lt : α → α → Bool) (l : List α) (z : α) : z ∈ Sr lt l ↔ z ∈ l:=by
 unfold Sr
 rw [List.mem_reverse,Yw]
 simp
theorem DF {lt : α → α → Bool} (hi : ∀ x,lt x x = false) (ht : ∀ x y z,lt x y = true → lt y z = true → lt x z = true) : ∀ A B : List α,A.Pairwise (fun a b=>lt a b = true) → B.Pairwise (fun a b=>lt a b = true) → (∀ x,x ∈ A ↔ x ∈ B) → A = B
 | [],[],_,_,_=>rfl
 | [],b :: B,_,_,h=>by have:=(h b).2 (by simp); cases this
 | a :: A,[],_,_,h=>by have:=(h a).1 (by simp); cases this
 | a :: A,b :: B,hA,hB,h=>by
  rw [List.pairwise_cons] at hA hB
  have hab : a = b:=by
   rcases List.mem_cons.1 ((h a).1 (by simp)) with e | h1
   ·exact e
   ·rcases List.mem_cons.1 ((h b).2 (by simp)) with e | h2
    ·exact e.symm
    ·have:=ht a b a (hA.1 b h2) (hB.1 a h1)
     rw [hi] at this
     cases this
  subst hab
  have : A = B:=DF hi ht A B hA.2 hB.2 fun x=>by
   have hx:=h x
   constructor
   ·intro hm
    rcases List.mem_cons.1 (hx.1 (List.mem_cons_of_mem _ hm)) with rfl | h3
    ·have:=hA.1 x hm; rw [hi] at this; cases this
    ·exact h3
   ·intro hm
    rcases List.mem_cons.1 (hx.2 (List.mem_cons_of_mem _ hm)) with rfl | h3
    ·have:=hB.1 x hm; rw [hi] at this; cases this
    ·exact h3
  rw [this]
theorem Xt (lt : α → α → Bool) : ∀ l rp : List α,(Tg lt l rp).length = l.length + rp.length
 | [],rp=>by simp [Tg]
 | x :: l,rp=>by
  show (Tg lt l (Ry lt x rp)).length = _
  rw [Xt lt l,Th]
  simp only [List.length_cons]
  omega
theorem BZ (lt : α → α → Bool) (l : List α) : (Sr lt l).length = l.length:=by
 unfold Sr
 rw [List.length_reverse,Xt]
 simp
theorem FO {lt : α → α → Bool} (hi : ∀ x,lt x x = false) (ht : ∀ x y z,lt x y = true → lt y z = true → lt x z = true) (A B : List α) (h : A.Pairwise fun a b=>lt b a = false → lt a b = true) (hB : B.Pairwise fun a b=>lt a b = true) (hm : ∀ x,x ∈ A ↔ x ∈ B) : Sr lt A = B :=
 DF hi ht _ _ (Za ht A h) hB fun x=>by rw [Vz,hm]
variable {R : Type} [Inhabited α]
end
end Go.Proofs.YtcmlfgcnichcdaaGreatDoor
namespace Go.Proofs.YtcmlfgcnichcdaaGreatDoor
open Go
def Dr {α : Type} (a k : Int) (Q : α → Prop) (o : Option (α × Int)) : Prop:=∃ v b,o = some (v,b) ∧ a ≤ b ∧ b ≤ a + k ∧ Q v
abbrev AZ (L : List Int) : Prop:=(L.length : Int) ≤ 9223372036854775807
section
variable {L : List Int} (hL : AZ L) {a : Int} (h0 : 0 ≤ a) (h1 : a ≤ 1000000000000)
include hL h0 h1
theorem DH (n : Int) (hn : n ≤ 4611686018427387904) : Dr a 1 (fun v=>0 ≤ v ∧ (v < n ∨ (n < 1 ∧ v = 0))) (Ke L a n):=by
 obtain ⟨v,e,g⟩:=Tu L a n h0 (by omega) hL hn
 exact ⟨v,a + 1,e,by omega,by omega,g⟩
theorem Tv (l : List Int) (hl : 0 < l.length) (hl' : l.length ≤ 1000) : Dr a 1 (fun v=>v ∈ l) (Kf L a l):=by
 obtain ⟨v,e,g⟩:=CY L a l h0 (by omega) hL hl hl'
 exact ⟨v,a + 1,e,by omega,by omega,g⟩
theorem Vg (n : Int) (hn : n ≤ 4611686018427387904) : Dr a 1 (fun _=>True) (Kg L a n):=by
 obtain ⟨v,e⟩:=CZ L a n h0 (by omega) hL hn
 exact ⟨v,a + 1,e,by omega,by omega,trivial⟩
theorem Qf (l : List ByteArray) (hl : 0 < l.length) (hl' : l.length ≤ 1000) : Dr a 1 (fun v=>v ∈ l) (Js L a l):=by
 obtain ⟨v,e1,h1,h2⟩:=Tu L a (l.length : Int) h0 (by omega) hL (by omega)
 have hc : inB v l.length = true:=Ju.2 ⟨h1,by omega⟩
 unfold Js
 rw [e1]
 simp only [Option.bind_some]
 rw [Gm hc]
 exact ⟨nth l v,a + 1,rfl,by omega,by omega,List.mem_of_getElem? (Dg hc).1⟩
theorem Xu (low high : Int) (h2 : -1000000000000 ≤ low) (h3 : low ≤ 1000000000000) (h4 : high ≤ 1000000000000) : Dr a 1 (fun v=>low ≤ v ∧ (v ≤ high ∨ v = low)) (Lc L a low high):=by
 unfold Lc
 by_cases h : high < low
 ·exact ⟨low,a,by simp [h],by omega,by omega,by omega,.inr rfl⟩
 ·have w1 : W (high - low) = high - low:=Oh (by omega) (by omega)
  have w2 : W (high - low + 1) = high - low + 1:=Oh (by omega) (by omega)
  obtain ⟨v,e,g1,g2⟩:=Tu L a (high - low + 1) h0 (by omega) hL (by omega)
  rw [if_neg (by simpa using h),w1,w2,e]
  have w3 : W (low + v) = low + v:=Oh (by omega) (by omega)
  exact ⟨_,_,rfl,by show a ≤ a + 1; omega,by show a + 1 ≤ a + 1; omega,by simp only [w3]; omega⟩
theorem Xv (low high : Int) (h2 : -1000000000000 ≤ low) (h3 : low ≤ 1000000000000) (h4 : high ≤ 1000000000000) : Dr a 2 (fun _=>True) (Ms L a low high):=by
 obtain ⟨b,e1⟩:=CZ L a 12 h0 (by omega) hL (by omega)
 unfold Ms
 rw [e1]
 simp only [Option.bind_some]
 cases b with
 | true =>
  obtain ⟨v,e,_⟩:=CY L (a + 1) [W (low - 1),W (high + 1),low,high,(-1099511627776),1099511627776] (by omega) (by omega) hL (by simp) (by simp)
  rw [if_pos rfl,e]
  exact ⟨_,_,rfl,by show a ≤ a + 1 + 1; omega,by show a + 1 + 1 ≤ a + 2; omega,trivial⟩
 | false =>
  unfold Lc
  by_cases h : high < low
  ·rw [if_neg (by simp),if_pos (by simpa using h)]
   exact ⟨_,_,rfl,by show a ≤ a + 1; omega,by show a + 1 ≤ a + 2; omega,trivial⟩
  ·have w1 : W (high - low) = high - low:=Oh (by omega) (by omega)
   have w2 : W (high - low + 1) = high - low + 1:=Oh (by omega) (by omega)
   obtain ⟨v,e,g1,g2⟩:=Tu L (a + 1) (high - low + 1) (by omega) (by omega) hL (by omega)
   rw [if_neg (by simp),if_neg (by simpa using h),w1,w2,e]
   exact ⟨_,_,rfl,by show a ≤ a + 1 + 1; omega,by show a + 1 + 1 ≤ a + 2; omega,trivial⟩
end
end Go.Proofs.YtcmlfgcnichcdaaGreatDoor
namespace Go.Proofs.YtcmlfgcnichcdaaGreatDoor
open Go
def ltD (x y : An) : Bool:=decide (Ex x y < 0)
theorem len_d : ∀ n : Fin 13,(Uu (IntKind.wrap .u64 (n.val : Int))).isSome = true:=by decide +kernel
def ltR (x y : An) : Bool:=decide (Ea x y < 0)
theorem CA (l : List An) (hl : l.length ≤ 19) : Ez l = some (Sr ltR l):=by
 have hs : Eo l 0 (l.length : Int) = some (Sr ltR l):=by
  unfold Eo
  simp only [Mp]
  have hins : ∀ (k : List An → Option (List An)) (rp : List An) (x : An) (post : List An),((rp ++ x :: post).length : Int) = (l.length : Int) → (∀ y,y ∈ rp ∨ y = x ∨ y ∈ post → y ∈ (rp ++ x :: post)) →
    Dh 0 k (((rp.length : Int) - 0).toNat + 2) (rp.reverse ++ x :: post) (rp.length : Int) = k ((Ry ltR x rp).reverse ++ post):=by
   intro k rp x post h1 _
   exact FK (fun x y k=>k (ltR x y)) ltR k (Dh 0 k) (fun _ _ _=>rfl) rp x post _ (by omega) (by simp at h1; omega) fun y _ k'=>rfl
  cases l with
  | nil=>rfl
  | cons x l =>
   have hw : W (0 + 1) = (([x] : List An).length : Int):=rfl
   rw [hw]
   exact AC ltR (fun x=>some x) (fun k x i=>Dh 0 k ((i - 0).toNat + 2) x i) (Dp ((x :: l).length : Int) 0 fun x=>some x) ((x :: l).length : Int) (fun _ _ _=>rfl)
    (fun k rp x post h1 h2=>hins k rp x post h1 h2) l [x] _ (by simp only [List.length_cons,List.length_nil]; omega) (by simp only [List.length_cons,List.length_nil]; omega) (by simp only [List.length_cons,List.length_nil] at hl ⊢; omega)
 unfold Ez Gn
 simp only [Mp]
 rw [Du,if_neg (by simp; omega),hs]
 simp only [Option.bind_some]
 rw [Dv,if_neg (by simp; omega)]
 rfl
theorem Pq (p q : An) : ltD p q = true ↔ p.At < q.At ∨ (p.At = q.At ∧ (cB p.Site q.Site < 0 ∨ (p.Site = q.Site ∧ p.No < q.No))):=by
 unfold ltD
 rw [decide_eq_true_eq,Xq]
 rcases FM p.Site q.Site with h | h | h
 ·have hne : p.Site ≠ q.Site:=fun e=>by rw [e,Sm] at h; omega
  simp only [h,hne,false_and,or_false]
  split <;> (try split) <;> (try split) <;> omega
 ·have he : p.Site = q.Site:=Ve h
  simp only [he,Sm,true_and,ne_eq,not_true_eq_false,if_false,Int.lt_irrefl,false_or]
  split <;> (try split) <;> (try split) <;> (try split) <;> omega
 ·have hne : p.Site ≠ q.Site:=fun e=>by rw [e,Sm] at h; omega
  simp only [h,hne,false_and,or_false]
  split <;> (try split) <;> (try split) <;> omega
theorem ltD_irr (p : An) : ltD p p = false:=by
 cases h : ltD p p with
 | false=>rfl
 | true=>rw [Pq,Sm] at h; omega
theorem Wa (p q r : An) (h1 : ltD p q = true) (h2 : ltD q r = true) : ltD p r = true:=by
 rw [Pq] at *
 rcases h1 with h1 | ⟨a1,h1⟩ <;> rcases h2 with h2 | ⟨a2,h2⟩
 ·exact .inl (by omega)
 ·exact .inl (by omega)
 ·exact .inl (by omega)
 ·refine .inr ⟨by omega,?_⟩
  rcases h1 with h1 | ⟨b1,h1⟩ <;> rcases h2 with h2 | ⟨b2,h2⟩
  ·exact .inl (AY h1 h2)
  ·exact .inl (by rw [← b2]; exact h1)
  ·exact .inl (by rw [b1]; exact h2)
  ·exact .inr ⟨b1.trans b2,by omega⟩
theorem ltD_tot {p q : An} (h : ltD q p = false) (hn : Cx p ≠ Cx q) : ltD p q = true:=by
 have h' : ¬ ltD q p = true:=by rw [h]; simp
 rw [Pq] at h' ⊢
 have hf:=DE p.Site q.Site
 rcases FM p.Site q.Site with h | h | h
 ·by_cases h1 : p.At < q.At
  ·exact .inl h1
  ·exact .inr ⟨by omega,.inl (by omega)⟩
 ·have he : p.Site = q.Site:=Ve h
  have hno : p.No ≠ q.No:=fun e=>hn (by unfold Cx; rw [he,e])
  by_cases h1 : p.At < q.At
  ·exact .inl h1
  ·by_cases h2 : q.At < p.At
   ·exact absurd (.inl h2) h'
   ·by_cases h3 : p.No < q.No
    ·exact .inr ⟨by omega,.inr ⟨he,h3⟩⟩
    ·exact absurd (.inr ⟨by omega,.inr ⟨he.symm,by omega⟩⟩) h'
 ·by_cases h1 : p.At < q.At
  ·exact .inl h1
  ·by_cases h2 : q.At < p.At
   ·exact absurd (.inl h2) h'
   ·exact absurd (.inr ⟨by omega,.inl (by omega)⟩) h'
theorem BY.up : ∀ {l : List An},BY l → l.Pairwise fun a b=>ltD a b = true
 | [],_=>List.Pairwise.nil
 | [x],_=>List.pairwise_singleton _ _
 | x :: y :: l,h=>by
  have h1:=BY.up (l:=y :: l) (fun d p q r e=>h (x :: d) p q r (by rw [e]; rfl))
  have h2 : ltD x y = true:=decide_eq_true (h [] x y l rfl)
  refine List.pairwise_cons.2 ⟨fun z hz=>?_,h1⟩
  rcases List.mem_cons.1 hz with rfl | hz
  ·exact h2
  ·exact Wa _ _ _ h2 ((List.pairwise_cons.1 h1).1 z hz)
theorem up_DAdj {l : List An} (h : l.Pairwise fun a b=>ltD a b = true) : BY l:=by
 intro d x y r e
 subst e
 have h1:=(List.pairwise_append.1 h).2.1
 exact of_decide_eq_true ((List.pairwise_cons.1 h1).1 y List.mem_cons_self)
end Go.Proofs.YtcmlfgcnichcdaaGreatDoor
namespace Go.Proofs.YtcmlfgcnichcdaaGreatDoor
open Go
theorem DG.chk {d : An} (h : DG d) : Kb d = some 0:=by
 have hno:=inW.2 h.no
 have hat : Gf d.At = true:=by unfold Gf; simpa using h.at_
 have hkd : Dd d.Kind 1 4 = true:=inW.2 (by rcases h.kind with h | h | h | h <;> omega)
 have hf:=h.form
 obtain ⟨kW,w1,_⟩:=Pe d.Who
 obtain ⟨kR,r1,_⟩:=Pe d.Race
 obtain ⟨kC,c1,_⟩:=Pe d.Club
 obtain ⟨kO,o1,_⟩:=Pe d.Of
 unfold Kb
 simp only [h.site,w1,r1,c1,o1,Option.bind_some,hno,hat,hkd,Nj,Bool.not_true,Bool.or_self,Bool.false_eq_true,if_false]
 rcases h.kind with hk | hk | hk | hk
 ·rw [if_pos hk,hk] at hf
  obtain ⟨q1,q2⟩:=h.who (by omega)
  obtain rfl : kW = true:=Option.some.inj (w1.symm.trans q1)
  obtain rfl : kR = true:=Option.some.inj (r1.symm.trans q2)
  have ht:=inW.2 (h.time (.inl hk))
  have hc : (!decide (d.Club = Cw) && !kC) = false:=by
   rcases h.club hk with hc | hc
   ·rw [hc]; rfl
   ·obtain rfl : kC = true:=Option.some.inj (c1.symm.trans hc)
    simp
  have hd:=decide_eq_true hf
  simp only [hk,hd,ht,hc,show decide ((1 : Int) = 1) = true from rfl,show decide ((1 : Int) = 3) = false from rfl,show decide ((1 : Int) = 4) = false from rfl,decide_true,decide_false,Bool.not_true,Bool.not_false,Bool.true_and,Bool.false_and,Bool.and_true,Bool.and_false,Bool.or_false,Bool.false_or,Bool.true_or,Bool.or_true,Bool.and_self,Bool.or_self,if_true,Bool.false_eq_true,if_false]
  cases decide (d.Club = Cw) <;> simp only [decide_true,decide_false,Bool.not_true,Bool.not_false,Bool.true_and,Bool.false_and,Bool.and_true,Bool.and_false,Bool.or_false,Bool.false_or,Bool.true_or,Bool.or_true,Bool.and_self,Bool.or_self,if_true,Bool.false_eq_true,if_false]
 ·rw [if_neg (by omega),if_neg (by omega),if_neg (by omega),hk] at hf
  obtain ⟨q1,q2⟩:=h.who (by omega)
  obtain rfl : kW = true:=Option.some.inj (w1.symm.trans q1)
  obtain rfl : kR = true:=Option.some.inj (r1.symm.trans q2)
  have hd:=decide_eq_true hf
  simp only [hk,hd,Bool.not_true,show decide ((2 : Int) = 1) = false from rfl,show decide ((2 : Int) = 3) = false from rfl,show decide ((2 : Int) = 4) = false from rfl,decide_true,decide_false,Bool.not_true,Bool.not_false,Bool.true_and,Bool.false_and,Bool.and_true,Bool.and_false,Bool.or_false,Bool.false_or,Bool.true_or,Bool.or_true,Bool.and_self,Bool.or_self,if_true,Bool.false_eq_true,if_false]
 ·rw [if_neg (by omega),if_pos hk,hk] at hf
  obtain ⟨q1,q2⟩:=h.who (by omega)
  obtain rfl : kW = true:=Option.some.inj (w1.symm.trans q1)
  obtain rfl : kR = true:=Option.some.inj (r1.symm.trans q2)
  have ht:=inW.2 (h.time (.inr hk))
  have hu:=inW.2 (h.fault hk)
  have hd:=decide_eq_true hf
  simp only [hk,hd,ht,hu,show decide ((3 : Int) = 1) = false from rfl,show decide ((3 : Int) = 3) = true from rfl,show decide ((3 : Int) = 4) = false from rfl,decide_true,decide_false,Bool.not_true,Bool.not_false,Bool.true_and,Bool.false_and,Bool.and_true,Bool.and_false,Bool.or_false,Bool.false_or,Bool.true_or,Bool.or_true,Bool.and_self,Bool.or_self,if_true,Bool.false_eq_true,if_false]
 ·rw [if_neg (by omega),if_neg (by omega),if_pos hk,hk] at hf
  obtain ⟨q1,q2⟩:=h.of_ hk
  obtain rfl : kO = true:=Option.some.inj (o1.symm.trans q1)
  have hu:=inW.2 q2
  have hd:=decide_eq_true hf
  simp only [hk,hd,hu,show decide ((4 : Int) = 1) = false from rfl,show decide ((4 : Int) = 3) = false from rfl,show decide ((4 : Int) = 4) = true from rfl,decide_true,decide_false,Bool.not_true,Bool.not_false,Bool.true_and,Bool.false_and,Bool.and_true,Bool.and_false,Bool.or_false,Bool.false_or,Bool.true_or,Bool.or_true,Bool.and_self,Bool.or_self,if_true,Bool.false_eq_true,if_false]
theorem DsG.sub {x p : List An} (h : DsG x) (s : p.Sublist x) : DsG p :=
 ⟨Nat.le_trans s.length_le h.len,fun y hy=>h.each y (s.subset hy),up_DAdj (h.adj.up.sublist s),h.nodup.sublist (s.map _)⟩
theorem chk_l (l : List An) (h : DsG l) (j : List (Cz × Bool) → Bool → Option Int) : ∀ (ys dn : List An) (m : List (Cz × Bool)),l = dn ++ ys → (∀ e,Dw m e false = decide (e ∈ dn.map Cx)) →
  ∃ m',Fp l j ys dn.length m false = j m' false
 | [],dn,m,_,_=>⟨m,rfl⟩
 | y :: ys,dn,m,hd,hm=>by
  have hl:=h.len
  have hlen : l.length = dn.length + (ys.length + 1):=by rw [hd]; simp
  have hy:=(h.each y (by rw [hd]; simp)).chk
  have hns : Cx y ∉ dn.map Cx:=fun hin=>by
   have hn:=h.nodup
   rw [hd,List.map_append,List.nodup_append] at hn
   exact hn.2.2 _ hin _ (by simp) rfl
  obtain ⟨m',e⟩:=chk_l l h j ys (dn ++ [y]) (Ff m (Cx y) true) (by rw [hd]; simp) (fun e=>by
   rw [Wy,hm e]
   by_cases h1 : e = Cx y
   ·rw [if_pos h1]; exact (decide_eq_true (by simp [h1])).symm
   ·rw [if_neg h1]; exact decide_eq_decide.2 (by simp [h1]))
  rw [List.length_append,List.length_singleton] at e
  refine ⟨m',?_⟩
  rw [Fp,hy]
  simp only [Option.bind_some,Nj,decide_true,Bool.not_true,Bool.false_eq_true,if_false,hm,decide_eq_false hns,Bool.or_self]
  by_cases h0 : (0 : Int) < (dn.length : Int)
  ·obtain ⟨d,x,hdx⟩ : ∃ d x,dn = d ++ [x]:=by
    rcases List.eq_nil_or_concat dn with h1 | ⟨d,x,h1⟩
    ·rw [h1] at h0; simp at h0
    ·exact ⟨d,x,by rw [h1]; simp⟩
   have hdl : dn.length = d.length + 1:=by rw [hdx]; simp
   have hw : W ((dn.length : Int) - 1) = (d.length : Int):=by rw [Oh (by omega) (by omega)]; omega
   have hn : nth l (d.length : Int) = x:=by rw [hd,hdx]; unfold nth; simp
   have hc : ¬ 0 ≤ Ex x y:=by
    have:=h.adj d x y ys (by rw [hd,hdx]; simp)
    omega
   simp only [h0,decide_true,if_true,hw,Gm (show inB (d.length : Int) l.length = true from Ju.2 (by omega)),hn,hc,decide_false,Bool.false_eq_true,if_false]
   exact e
  ·simp only [h0,decide_false,Bool.false_eq_true,if_false]
   exact e
theorem DsG.chk {l : List An} (h : DsG l) : Gu l = some 0:=by
 have hl:=h.len
 unfold Gu
 rw [if_neg (by simp; omega)]
 simp only [Nj]
 obtain ⟨m',e⟩:=chk_l l h (fun x1 x2=>if x2 then some 6 else some 0) l [] [] rfl (fun e=>by simp [Dw,Nv,Jw])
 rw [show ([] : List An).length = 0 from rfl] at e
 rw [e]
 rfl
theorem BA (m : List (Cz × An)) (k k' : Cz) (v : An) : Nv (Ff m k v) k' = if k' = k then some v else Nv m k':=Xo k k' v m 0
theorem BB (j : List (Cz × An) → Option (List An × Int)) : ∀ (ys dn : List An) (i : Nat) (m : List (Cz × An)),((dn ++ ys).map Cx).Nodup →
  (∀ s ∈ dn,Nv m (Cx s) = some s) → (∀ e,(Nv m e).isSome = true → ∃ s ∈ dn,Cx s = e) →
  ∃ m',Jx j ys i m = j m' ∧ (∀ s ∈ dn ++ ys,Nv m' (Cx s) = some s) ∧ ∀ e,(Nv m' e).isSome = true → ∃ s ∈ dn ++ ys,Cx s = e
 | [],dn,i,m,_,h1,h2=>⟨m,rfl,by simpa using h1,by simpa using h2⟩
 | y :: ys,dn,i,m,hn,h1,h2=>by
  obtain ⟨m',e,g1,g2⟩:=BB j ys (dn ++ [y]) (i + 1) (Ff m (Cx y) y) (by simpa using hn) (fun s hs=>by
   rw [BA]
   rcases List.mem_append.1 hs with hs | hs
   ·rw [if_neg]
    ·exact h1 s hs
    ·intro he
     rw [List.map_append,List.nodup_append] at hn
     exact hn.2.2 _ (List.mem_map_of_mem hs) _ (by simp) he
   ·obtain rfl:=List.mem_singleton.1 hs
    rw [if_pos rfl]) (fun e he=>by
   rw [BA] at he
   by_cases h : e = Cx y
   ·exact ⟨y,by simp,h.symm⟩
   ·rw [if_neg h] at he
    obtain ⟨s,hs,hse⟩:=h2 e he
    exact ⟨s,List.mem_append.2 (.inl hs),hse⟩)
  exact ⟨m',by rw [Jx]; exact e,by simpa using g1,by simpa using g2⟩
end Go.Proofs.YtcmlfgcnichcdaaGreatDoor
