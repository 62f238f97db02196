/- Parts of a right list of deeds,and what they are merged to. No program stands here but its twins. -/
import Derived.Test.YtdndpbbimcilpaaGreatDoorTw
namespace Go.Proofs.YtdndpbbimcilpaaGreatDoor
open Go

theorem Ij {R : Type} {c : Bool} {k : Option R} (h : c = true) : Chk c k = k:=by simp [Chk,h]
theorem Mn {κ R : Type} (K : κ) (f : κ → R) : Gd K f = f K:=rfl
theorem BE {x n : Int} (hn : 0 < n) : -n < Int.tmod x n ∧ Int.tmod x n < n:=by
 have h1:=Int.tmod_lt_of_pos x hn
 have h2:=Int.tmod_lt_of_pos (-x) hn
 rw [Int.neg_tmod] at h2
 omega
theorem CS (x n : Int) (hn : n ≤ 4611686018427387904) : ∃ v,My x n = some v ∧ 0 ≤ v ∧ (v < n ∨ (n < 1 ∧ v = 0)):=by
 unfold My
 by_cases h : n < 1
 ·exact ⟨0,by simp [h],Int.le_refl _,.inr ⟨h,rfl⟩⟩
 ·have h1:=BE (x:=x) (n:=n) (by omega)
  have h0 : ¬ n = 0:=by omega
  simp only [decide_eq_true_eq,h,if_false,Gd]
  rw [Ij (by simp [h0])]
  by_cases h2 : Int.tmod x n < 0
  ·rw [if_pos h2,Px (by omega) (by omega)]
   exact ⟨_,rfl,by omega,.inl (by omega)⟩
  ·rw [if_neg h2]
   exact ⟨_,rfl,by omega,.inl (by omega)⟩
theorem Xz (L : List Int) (a n : Int) (ha : 0 ≤ a) (ha' : a ≤ 4611686018427387904) (hL : (L.length : Int) ≤ 9223372036854775807) (hn : n ≤ 4611686018427387904) :
  ∃ v,Mo L a n = some (v,a + 1) ∧ 0 ≤ v ∧ (v < n ∨ (n < 1 ∧ v = 0)):=by
 have w1 : W (a + 1) = a + 1:=Px (by omega) (by omega)
 have w2 : W (a + 1 - 1) = a:=by rw [show a + 1 - 1 = a by omega]; exact Px (by omega) (by omega)
 unfold Mo
 rw [w1,w2]
 by_cases h : (L.length : Int) = 0
 ·obtain ⟨v,h1,h2,h3⟩:=CS (W ((a + 1) * 7919)) n hn
  exact ⟨v,by simp [h,h1],h2,h3⟩
 ·have h0 : 0 < (L.length : Int):=by omega
  have hm:=BE (x:=a) h0
  have hm0 : 0 ≤ Int.tmod a (L.length : Int):=Int.tmod_nonneg _ ha
  have hc : inB (Int.tmod a (L.length : Int)) L.length = true:=Kp.2 ⟨hm0,hm.2⟩
  obtain ⟨v1,e1,_,_⟩:=CS (nth L (Int.tmod a (L.length : Int))) 1073741824 (by omega)
  simp only [decide_eq_true_eq,h,if_false]
  rw [Ij (by simp),Ij (by simp),Ij hc,e1]
  simp only [Option.bind_some]
  obtain ⟨v2,e2,g1,g2⟩:=CS (W (v1 + W (W (Int.tdiv a (L.length : Int)) * W (7919 + Int.tmod a (L.length : Int))))) n hn
  exact ⟨v2,by rw [e2]; rfl,g1,g2⟩
theorem JC (L : List Int) (a : Int) (l : List Int) (ha : 0 ≤ a) (ha' : a ≤ 4611686018427387904) (hL : (L.length : Int) ≤ 9223372036854775807) (hl : 0 < l.length) (hl' : l.length ≤ 1000) :
  ∃ v,Hq L a l = some (v,a + 1) ∧ v ∈ l:=by
 obtain ⟨v,h1,h2,h3⟩:=Xz L a (l.length : Int) ha ha' hL (by omega)
 have h4 : v < (l.length : Int):=by omega
 have hc : inB v l.length = true:=Kp.2 ⟨h2,h4⟩
 unfold Hq
 rw [h1]
 simp only [Option.bind_some]
 rw [Ij hc]
 exact ⟨nth l v,rfl,List.mem_of_getElem? (Dc hc).1⟩
theorem JD (L : List Int) (a n : Int) (ha : 0 ≤ a) (ha' : a ≤ 4611686018427387904) (hL : (L.length : Int) ≤ 9223372036854775807) (hn : n ≤ 4611686018427387904) : ∃ b,Ot L a n = some (b,a + 1):=by
 obtain ⟨v,h1,_,_⟩:=Xz L a n ha ha' hL hn
 unfold Ot
 rw [h1]
 exact ⟨_,rfl⟩
end Go.Proofs.YtdndpbbimcilpaaGreatDoor
namespace Go.Proofs.YtdndpbbimcilpaaGreatDoor
open Go

theorem FY {l : List UInt8} {c : UInt8} : decide (Lib.indexByte l c < 0) = !l.contains c:=by
 have key : ∀ l : List UInt8,(Lib.indexByte l c = -1 ∧ l.contains c = false) ∨ (0 ≤ Lib.indexByte l c ∧ l.contains c = true):=by
  intro l
  induction l with
  | nil=>exact .inl ⟨rfl,rfl⟩
  | cons b l ih =>
   by_cases hb : b = c
   ·subst hb; exact .inr (by simp [Lib.indexByte])
   ·have hb' : (b == c) = false:=by simpa using hb
    have hc : (c == b) = false:=by simpa using fun h=>hb h.symm
    rcases ih with ⟨h1,h2⟩ | ⟨h1,h2⟩
    ·refine .inl ⟨by simp [Lib.indexByte,hb',h1],?_⟩
     rw [List.contains_cons,hc,h2]; rfl
    ·have h3 : ¬ Lib.indexByte l c = -1:=by omega
     refine .inr ⟨by simp [Lib.indexByte,hb',h3]; omega,?_⟩
     rw [List.contains_cons,hc,h2]; rfl
 rcases key l with ⟨h1,h2⟩ | ⟨h1,h2⟩
 ·rw [h1,h2]; rfl
 ·rw [h2]; simp; omega
theorem KM (u : UInt8) : ((u.toNat : Int)).toNat.toUInt8 = u:=by simp
theorem Vi (s : ByteArray) : s.size = s.data.toList.length:=by rw [ByteArray.size,Array.length_toList]
theorem EN {s : ByteArray} {j : Nat} {u : UInt8} (h : s.data.toList[j]? = some u) : Ub s (j : Int) = (u.toNat : Int):=by
 unfold Ub
 rw [Int.toNat_natCast]
 simp [List.getD,h]
theorem KN (s some_ : ByteArray) : ∀ (k : Nat) (m : Nat),k + m = s.size + 1 → s.size ≤ 4611686018427387904 →
  Jd s some_ (some true) (m + 1) (k : Int) = some ((s.data.toList.drop k).all fun b=>some_.data.toList.contains b):=by
 intro k m
 induction m generalizing k with
 | zero =>
  intro h hs
  have h1 : ¬ (k : Int) < (s.size : Int):=by omega
  rw [Jd]
  rw [if_neg (by simpa using h1),List.drop_of_length_le (by rw [← Vi]; omega)]
  rfl
 | succ m ih =>
  intro h hs
  rw [Jd]
  by_cases h1 : (k : Int) < (s.size : Int)
  ·have hk : k < s.data.toList.length:=by rw [← Vi]; omega
   have hget : s.data.toList[k]? = some s.data.toList[k]:=List.getElem?_eq_getElem hk
   rw [if_pos (decide_eq_true h1),Ij (Kp.2 ⟨by omega,h1⟩),List.drop_eq_getElem_cons hk,List.all_cons]
   have hb : decide (Pl some_ (Ub s (k : Int)) < 0) = !some_.data.toList.contains s.data.toList[k]:=by
    unfold Pl
    rw [EN hget,KM,FY]
   rw [hb]
   cases hc : some_.data.toList.contains s.data.toList[k] with
   | false=>simp
   | true =>
    simp only [Bool.not_true,Bool.false_eq_true,if_false,Bool.true_and]
    have hw : W ((k : Int) + 1) = ((k + 1 : Nat) : Int):=by rw [Px (by omega) (by omega)]; omega
    rw [hw]
    exact ih (k + 1) (by omega) hs
  ·rw [if_neg (by simpa using h1),List.drop_of_length_le (by rw [← Vi]; omega)]
   rfl
theorem JE (s some_ : ByteArray) (hs : s.size ≤ 4611686018427387904) : Pe s some_ = some (s.data.toList.all fun b=>some_.data.toList.contains b):=by
 unfold Pe
 rw [Mn]
 have h:=KN s some_ 0 (s.size + 1) (by omega) hs
 have e : ((s.size : Int) - 0).toNat + 2 = s.size + 1 + 1:=by omega
 rw [e]
 exact h
theorem Sr {p : UInt8 → Bool} : ∀ {l : List UInt8},l.dropWhile p = [] ↔ l.all p = true
 | []=>by simp
 | a :: l=>by
  rw [List.dropWhile_cons,List.all_cons]
  cases h : p a with
  | true=>simpa [h] using Sr (p:=p) (l:=l)
  | false=>simp
theorem ME {l cs : List UInt8} : Lib.trimS l cs = [] ↔ l.all (fun b=>cs.contains b) = true:=by
 unfold Lib.trimS Lib.trimLeftS Lib.trimRightS
 rw [Sr,List.all_reverse]
 constructor
 ·intro h
  have h2 : l.reverse.dropWhile (fun x=>cs.contains x) = []:=by
   cases hd : l.reverse.dropWhile (fun x=>cs.contains x) with
   | nil=>rfl
   | cons a r =>
    have h3:=List.head_dropWhile_not (fun x=>cs.contains x) (l:=l.reverse) (by rw [hd]; simp)
    rw [hd] at h
    simp only [hd,List.head_cons] at h3
    rw [List.all_cons,h3] at h
    cases h
  rw [Sr,List.all_reverse] at h2
  exact h2
 ·intro h
  have h2 : l.reverse.dropWhile (fun x=>cs.contains x) = []:=by rw [Sr,List.all_reverse]; exact h
  rw [h2]; rfl
end Go.Proofs.YtdndpbbimcilpaaGreatDoor
namespace Go.Proofs.YtdndpbbimcilpaaGreatDoor
open Go

theorem KO (u : UInt8) : Il.data.toList.contains u = (decide (97 ≤ (u.toNat : Int)) && decide ((u.toNat : Int) ≤ 122)):=by
 have key : ∀ n : Fin 256,Il.data.toList.contains (UInt8.ofNat n.val) = (decide (97 ≤ (((UInt8.ofNat n.val).toNat : Nat) : Int)) && decide ((((UInt8.ofNat n.val).toNat : Nat) : Int) ≤ 122)):=by decide +kernel
 have h:=key ⟨u.toNat,u.toNat_lt⟩
 simpa using h
theorem KP : (Gf.data.toList.all fun b=>decide (b.toNat < 128)) = true:=by decide +kernel
theorem KQ (l : List UInt8) : ((⟨l.toArray⟩ : ByteArray) = Cx) ↔ l = []:=by
 constructor
 ·intro h
  have h2:=congrArg (fun b : ByteArray=>b.data.toList) h
  simpa [Cx] using h2
 ·rintro rfl; rfl
theorem Sa (s : ByteArray) : ∃ b,Gn s = some b ∧ Ls s = some b:=by
 by_cases hs : 1 ≤ s.size ∧ s.size ≤ 40
 ·obtain ⟨h1,h2⟩:=hs
  have hsz:=Vi s
  obtain ⟨u,r,hl⟩ : ∃ u r,s.data.toList = u :: r:=by
   cases h : s.data.toList with
   | nil=>rw [h] at hsz; exact absurd hsz (by show ¬ s.size = 0; omega)
   | cons u r=>exact ⟨u,r,rfl⟩
  have hin : Ig (s.size : Int) 1 40 = true:=by unfold Ig; simp; omega
  have hwin : (decide (1 ≤ (s.size : Int)) && decide ((s.size : Int) ≤ 40)) = true:=by simp; omega
  have hb0 : inB 0 s.size = true:=Kp.2 ⟨by omega,by omega⟩
  have hc0 : Vo 0 1 s.size = true:=Ss.2 ⟨by omega,by omega,by omega⟩
  have hu : Ub s 0 = (u.toNat : Int):=EN (j:=0) (by rw [hl]; rfl)
  have hcut : (GD s 0 1).data.toList = [u]:=by
   unfold GD
   simp [hl]
  have hcsz : (GD s 0 1).size ≤ 4611686018427387904:=by rw [Vi,hcut]; simp
  have hall:=JE s Gf (by omega)
  have hone:=JE (GD s 0 1) Il hcsz
  rw [hcut] at hone
  simp only [List.all_cons,List.all_nil,Bool.and_true,KO] at hone
  have htrim : Rp s Gf = some ⟨(Lib.trimS s.data.toList Gf.data.toList).toArray⟩:=by
   unfold Rp
   rw [Ij (by simp; omega),Ij (by decide +kernel),Ij KP]
  have htr : decide ((⟨(Lib.trimS s.data.toList Gf.data.toList).toArray⟩ : ByteArray) = Cx) = s.data.toList.all fun b=>Gf.data.toList.contains b:=by
   rw [Bool.eq_iff_iff,decide_eq_true_eq,KQ,ME]
  refine ⟨(decide (97 ≤ (u.toNat : Int)) && decide ((u.toNat : Int) ≤ 122)) && s.data.toList.all fun b=>Gf.data.toList.contains b,?_,?_⟩
  ·unfold Gn
   simp only [Mn,hwin,if_true,Bool.true_and,Ij hb0,hu]
   by_cases g1 : 97 ≤ (u.toNat : Int)
   ·simp only [g1,decide_true,if_true,Bool.true_and]
    by_cases g2 : (u.toNat : Int) ≤ 122
    ·simp only [g2,decide_true,if_true,Bool.true_and,htrim,Option.bind_some,htr]
    ·simp only [g2,decide_false,Bool.false_eq_true,if_false,Bool.false_and]
   ·simp only [g1,decide_false,Bool.false_eq_true,if_false,Bool.false_and]
  ·unfold Ls
   simp only [Mn,hin,if_true,Bool.true_and,Ij hc0,hone,Option.bind_some]
   cases hz : (decide (97 ≤ (u.toNat : Int)) && decide ((u.toNat : Int) ≤ 122)) with
   | true=>simp only [if_true,hall,Option.bind_some,Bool.true_and]
   | false=>simp only [Bool.false_eq_true,if_false,Bool.false_and]
 ·refine ⟨false,?_,?_⟩
  ·have hwin : (decide (1 ≤ (s.size : Int)) && decide ((s.size : Int) ≤ 40)) = false:=by simp; omega
   unfold Gn
   simp only [Mn,hwin,Bool.false_eq_true,if_false,Bool.false_and]
  ·have hin : Ig (s.size : Int) 1 40 = false:=by unfold Ig; simp; omega
   unfold Ls
   simp only [Mn,hin,Bool.false_eq_true,if_false,Bool.false_and]
end Go.Proofs.YtdndpbbimcilpaaGreatDoor
namespace Go.Proofs.YtdndpbbimcilpaaGreatDoor
open Go
theorem GV {κ ν : Type} [DecidableEq κ] (k k' : κ) (v : ν) : ∀ (m : List (κ × ν)) (i : Nat),(Kl (Fz m k v) k' i).map (·.2) = if k' = k then some v else (Kl m k' i).map (·.2)
 | [],i=>by
  by_cases h : k' = k <;> simp [Fz,Kl,h]
 | (q,u) :: m,i=>by
  by_cases h1 : k = q
  ·subst h1
   by_cases h2 : k' = k <;> simp [Fz,Kl,h2]
  ·by_cases h2 : k' = q
   ·subst h2
    simp [Fz,Kl,h1]
    exact fun h=>(h1 h.symm).elim
   ·simp only [Fz,h1,if_false,Kl,h2]
    exact GV k k' v m (i + 1)
theorem FZ {κ ν : Type} [DecidableEq κ] (m : List (κ × ν)) (k k' : κ) (v d : ν) : Ek (Fz m k v) k' d = if k' = k then v else Ek m k' d:=by
 unfold Ek Zl
 rw [GV]
 split <;> simp
end Go.Proofs.YtdndpbbimcilpaaGreatDoor
namespace Go.Proofs.YtdndpbbimcilpaaGreatDoor
open Go
theorem Sb {κ R : Type} (K : κ) (f : κ → R) : Gd K f = f K:=rfl
theorem GW {R : Type} {c : Bool} {k : Option R} (h : c = true) : Chk c k = k:=by subst h; rfl
section
variable {α R : Type}
variable [Inhabited α]
theorem CA (a : List α) (y : α) (b : List α) {e : Int} (he : e = (a.length : Int)) : nth (a ++ y :: b) e = y:=by
 subst he
 simp [nth]
def Tm (lt : α → α → Bool) (x : α) : List α → List α
 | []=>[x]
 | y :: r=>if lt x y then y :: Tm lt x r else x :: y :: r
def Wh (lt : α → α → Bool) (l rp : List α) : List α:=l.foldl (fun rp x=>Tm lt x rp) rp
def Sh (lt : α → α → Bool) (l : List α) : List α:=(Wh lt l []).reverse
omit [Inhabited α] in
theorem Xl (lt : α → α → Bool) (x : α) : ∀ l : List α,(Tm lt x l).length = l.length + 1
 | []=>rfl
 | y :: r=>by
  unfold Tm
  split
  ·simp [Xl lt x r]
  ·rfl
omit [Inhabited α] in
theorem AA (lt : α → α → Bool) (x z : α) : ∀ l : List α,z ∈ Tm lt x l ↔ z = x ∨ z ∈ l
 | []=>by simp [Tm]
 | y :: r=>by
  unfold Tm
  split
  ·simp only [List.mem_cons,AA lt x z r]
   constructor
   ·rintro (h | h | h)
    ·exact .inr (.inl h)
    ·exact .inl h
    ·exact .inr (.inr h)
   ·rintro (h | h | h)
    ·exact .inr (.inl h)
    ·exact .inl h
    ·exact .inr (.inr h)
  ·simp
theorem JF (C : α → α → (Bool → Option R) → Option R) (lt : α → α → Bool) (j : List α → Option R) (F : Nat → List α → Int → Option R)
  (h : ∀ m x i,F (m + 1) x i = if decide (0 < i) then Chk (inB i x.length) (Chk (inB (W (i - 1)) x.length) (C (nth x i) (nth x (W (i - 1))) (fun b=>if b then
   Chk (inB (W (i - 1)) x.length) (Chk (inB i x.length) (Chk (inB i x.length) (Chk (inB (W (i - 1)) (x.set i.toNat (nth x (W (i - 1)))).length) (F m ((x.set i.toNat (nth x (W (i - 1)))).set (W (i - 1)).toNat (nth x i)) (W (i - 1)))))) else j x))) else j x) :
  ∀ (rp : List α) (x : α) (post : List α) (m : Nat),rp.length < m → rp.length + post.length < 1073741824 → (∀ y ∈ rp,∀ k,C x y k = k (lt x y)) →
   F m (rp.reverse ++ x :: post) (rp.length : Int) = j ((Tm lt x rp).reverse ++ post)
 | [],x,post,m,h1,h2,_=>by
  obtain ⟨m,rfl⟩ : ∃ q,m = q + 1:=⟨m - 1,by omega⟩
  rw [h,if_neg (by simp)]
  rfl
 | y :: r,x,post,m,h1,h2,hC=>by
  obtain ⟨m,rfl⟩ : ∃ q,m = q + 1:=⟨m - 1,by omega⟩
  simp only [List.length_cons] at h1 h2
  have e0 : (y :: r).reverse ++ x :: post = r.reverse ++ y :: x :: post:=by simp
  have e0' : r.reverse ++ y :: x :: post = (r.reverse ++ [y]) ++ x :: post:=by simp
  have wi : W ((((y :: r).length : Nat) : Int) - 1) = (r.length : Int):=by rw [Px (by simp only [List.length_cons]; omega) (by simp only [List.length_cons]; omega)]; simp
  have n1 : nth (r.reverse ++ y :: x :: post) (((y :: r).length : Nat) : Int) = x:=by rw [e0']; exact CA _ _ _ (by simp)
  have n2 : nth (r.reverse ++ y :: x :: post) (r.length : Int) = y:=CA _ _ _ (by simp)
  have b1 : inB (((y :: r).length : Nat) : Int) (r.reverse ++ y :: x :: post).length = true:=Kp.2 ⟨by omega,by simp; omega⟩
  have b2 : inB (r.length : Int) (r.reverse ++ y :: x :: post).length = true:=Kp.2 (by simp; omega)
  rw [h,e0,if_pos (decide_eq_true (by simp only [List.length_cons]; omega)),wi,GW b1,GW b2,n1,n2,hC y List.mem_cons_self]
  unfold Tm
  cases hb : lt x y with
  | true =>
   simp only [if_true]
   rw [GW b2,GW b1,GW b1,GW (by rw [List.length_set]; exact b2)]
   have e1 : ((r.reverse ++ y :: x :: post).set (((y :: r).length : Nat) : Int).toNat y).set (r.length : Int).toNat x = r.reverse ++ x :: (y :: post):=by
    have e2 : (r.reverse ++ y :: x :: post).set (((y :: r).length : Nat) : Int).toNat y = r.reverse ++ y :: y :: post:=by
     rw [e0',show (((y :: r).length : Nat) : Int).toNat = (r.reverse ++ [y]).length by simp,List.set_append_right _ _ (Nat.le_refl _)]
     simp
    rw [e2,show (r.length : Int).toNat = r.reverse.length by simp,List.set_append_right _ _ (Nat.le_refl _)]
    simp
   rw [e1,JF C lt j F h r x (y :: post) m (by omega) (by simp; omega) (fun z hz=>hC z (List.mem_cons_of_mem _ hz))]
   simp
  | false=>simp
omit [Inhabited α] in
theorem CB (lt : α → α → Bool) (j : List α → Option R) (G : (List α → Option R) → List α → Int → Option R) (F : Nat → List α → Int → Option R) (n : Int)
  (h : ∀ m x i,F (m + 1) x i = if decide (i < n) then G (fun x=>F m x (W (i + 1))) x i else j x)
  (hG : ∀ k (rp : List α) (x : α) (post : List α),((rp ++ x :: post).length : Int) = n → (∀ y,y ∈ rp ∨ y = x ∨ y ∈ post → y ∈ (rp ++ x :: post)) → G k (rp.reverse ++ x :: post) (rp.length : Int) = k ((Tm lt x rp).reverse ++ post)) :
  ∀ (rest rp : List α) (m : Nat),rest.length < m → ((rp.length + rest.length : Nat) : Int) = n → rp.length + rest.length < 1073741824 →
   F m (rp.reverse ++ rest) (rp.length : Int) = j (Wh lt rest rp).reverse
 | [],rp,m,h1,h2,_=>by
  obtain ⟨m,rfl⟩ : ∃ q,m = q + 1:=⟨m - 1,by omega⟩
  rw [h,if_neg (by simp at h2; simp; omega)]
  simp [Wh]
 | x :: r,rp,m,h1,h2,h3=>by
  obtain ⟨m,rfl⟩ : ∃ q,m = q + 1:=⟨m - 1,by omega⟩
  simp only [List.length_cons] at h1 h2 h3
  rw [h,if_pos (by simp; omega),hG _ rp x r (by simp; omega) (fun y hy=>by simpa using hy),show W ((rp.length : Int) + 1) = ((Tm lt x rp).length : Int) by rw [Px (by omega) (by omega),Xl]; rfl,
   CB lt j G F n h hG r (Tm lt x rp) m (by omega) (by rw [Xl]; omega) (by rw [Xl]; omega)]
  rfl
omit [Inhabited α] in
theorem EO (lt : α → α → Bool) (z : α) : ∀ l rp : List α,z ∈ Wh lt l rp ↔ z ∈ l ∨ z ∈ rp
 | [],rp=>by simp [Wh]
 | x :: l,rp=>by
  show z ∈ Wh lt l (Tm lt x rp) ↔ _
  rw [EO lt z l,AA]
  simp only [List.mem_cons]
  constructor
  ·rintro (h | h | h)
   ·exact .inl (.inr h)
   ·exact .inl (.inl h)
   ·exact .inr h
  ·rintro ((h | h) | h)
   ·exact .inr (.inl h)
   ·exact .inl h
   ·exact .inr (.inr h)
omit [Inhabited α] in
end
end Go.Proofs.YtdndpbbimcilpaaGreatDoor
namespace Go.Proofs.YtdndpbbimcilpaaGreatDoor
open Go
section
variable {α β R : Type}
variable [DecidableEq α] [Inhabited α]
end
section
variable {α R : Type} [Inhabited α]
end
end Go.Proofs.YtdndpbbimcilpaaGreatDoor
namespace Go.Proofs.YtdndpbbimcilpaaGreatDoor
open Go
theorem JG : ∀ l : List UInt8,Lib.compareBytes l l = 0
 | []=>rfl
 | a :: l=>by
  rw [Lib.compareBytes,if_neg (by simp),if_neg (by simp)]; exact JG l
theorem JH : ∀ l m : List UInt8,Lib.compareBytes l m = 0 → l = m
 | [],[],_=>rfl
 | [],_ :: _,h=>by simp [Lib.compareBytes] at h
 | _ :: _,[],h=>by simp [Lib.compareBytes] at h
 | a :: l,b :: m,h=>by
  rw [Lib.compareBytes] at h
  split at h
  ·cases h
  ·split at h
   ·cases h
   ·rename_i h1 h2
    rw [UInt8.lt_iff_toNat_lt] at h1 h2
    rw [JH l m h,show a = b from UInt8.toNat_inj.1 (by omega)]
theorem MF : ∀ l m : List UInt8,Lib.compareBytes l m = -1 ∨ Lib.compareBytes l m = 0 ∨ Lib.compareBytes l m = 1
 | [],[]=>.inr (.inl rfl)
 | [],_ :: _=>.inl rfl
 | _ :: _,[]=>.inr (.inr rfl)
 | a :: l,b :: m=>by
  rw [Lib.compareBytes]
  split
  ·exact .inl rfl
  ·split
   ·exact .inr (.inr rfl)
   ·exact MF l m
theorem JI : ∀ l m : List UInt8,Lib.compareBytes m l = - Lib.compareBytes l m
 | [],[]=>rfl
 | [],_ :: _=>rfl
 | _ :: _,[]=>rfl
 | a :: l,b :: m=>by
  rw [Lib.compareBytes,Lib.compareBytes,JI l m]
  simp only [UInt8.lt_iff_toNat_lt]
  by_cases h1 : a.toNat < b.toNat
  ·rw [if_neg (by omega),if_pos h1,if_pos h1]; rfl
  ·by_cases h2 : b.toNat < a.toNat
   ·rw [if_pos h2,if_neg h1,if_pos h2]
   ·rw [if_neg h2,if_neg h1,if_neg h1,if_neg h2]
theorem GX : ∀ l m k : List UInt8,Lib.compareBytes l m < 0 → Lib.compareBytes m k < 0 → Lib.compareBytes l k < 0
 | l,m,[],_,h=>by cases m <;> simp [Lib.compareBytes] at h
 | [],m,c :: k,_,_=>by simp [Lib.compareBytes]
 | a :: l,[],c :: k,h,_=>by simp [Lib.compareBytes] at h
 | a :: l,b :: m,c :: k,h1,h2=>by
  rw [Lib.compareBytes] at h1 h2 ⊢
  simp only [UInt8.lt_iff_toNat_lt] at h1 h2 ⊢
  by_cases g1 : a.toNat < b.toNat
  ·by_cases g2 : c.toNat < b.toNat
   ·rw [if_neg (by omega),if_pos g2] at h2; cases h2
   ·rw [if_pos (by omega)]; decide
  ·by_cases g1' : b.toNat < a.toNat
   ·rw [if_neg g1,if_pos g1'] at h1; cases h1
   ·rw [if_neg g1,if_neg g1'] at h1
    by_cases g2 : b.toNat < c.toNat
    ·rw [if_pos (by omega)]; decide
    ·by_cases g3 : c.toNat < b.toNat
     ·rw [if_neg g2,if_pos g3] at h2; cases h2
     ·rw [if_neg g2,if_neg g3] at h2
      rw [if_neg (by omega),if_neg (by omega)]
      exact GX l m k h1 h2
def cB (s t : ByteArray) : Int:=Lib.compareBytes s.data.toList t.data.toList
theorem Ya (s : ByteArray) : cB s s = 0:=JG _
theorem GA {s t : ByteArray} (h : cB s t = 0) : s = t:=by
 have:=JH _ _ h
 cases s; cases t
 simpa using this
theorem cB_rng (s t : ByteArray) : cB s t = -1 ∨ cB s t = 0 ∨ cB s t = 1:=MF _ _
theorem cB_flip (s t : ByteArray) : cB t s = - cB s t:=JI _ _
theorem GY {s t u : ByteArray} (h1 : cB s t < 0) (h2 : cB t u < 0) : cB s u < 0:=GX _ _ _ h1 h2
end Go.Proofs.YtdndpbbimcilpaaGreatDoor
namespace Go.Proofs.YtdndpbbimcilpaaGreatDoor
open Go
structure DG (d : An) : Prop where
 no : 1 ≤ d.No ∧ d.No ≤ 1000000
 at_ : 0 ≤ d.At ∧ d.At < 345686400000
 kind : d.Kind = 1 ∨ d.Kind = 2 ∨ d.Kind = 3 ∨ d.Kind = 4
 site : Gn d.Site = some true
 who : d.Kind ≠ 4 → Gn d.Who = some true ∧ Gn d.Race = some true
 club : d.Kind = 1 → d.Club = Cx ∨ Gn d.Club = some true
 time : d.Kind = 1 ∨ d.Kind = 3 → 0 ≤ d.Time ∧ d.Time ≤ 360000
 fault : d.Kind = 3 → 0 ≤ d.Fault ∧ d.Fault ≤ 8
 of_ : d.Kind = 4 → Gn d.Of = some true ∧ 1 ≤ d.Other ∧ d.Other ≤ 1000000
 form : d = if d.Kind = 1 then An.mk d.Site d.No d.At d.Kind d.Who d.Club d.Race d.Time 0 Cx 0 else
  if d.Kind = 3 then An.mk d.Site d.No d.At d.Kind d.Who Cx d.Race d.Time d.Fault Cx 0 else
  if d.Kind = 4 then An.mk d.Site d.No d.At d.Kind Cx Cx Cx 0 0 d.Of d.Other else An.mk d.Site d.No d.At d.Kind d.Who Cx d.Race 0 0 Cx 0
theorem inW {n l h : Int} : Cy n l h = true ↔ l ≤ n ∧ n ≤ h:=by unfold Cy; simp
theorem KR (d : An) : ∃ e,Na d = some e ∧ Mz d = some e ∧ (e = 0 → DG d):=by
 obtain ⟨kS,s1,s2⟩:=Sa d.Site
 obtain ⟨kW,w1,w2⟩:=Sa d.Who
 obtain ⟨kR,r1,r2⟩:=Sa d.Race
 obtain ⟨kC,c1,c2⟩:=Sa d.Club
 obtain ⟨kO,o1,o2⟩:=Sa d.Of
 have hw : Ig = Cy:=rfl
 have hm : Mf d.At = Hg d.At:=by
  unfold Mf Ig Hg
  congr 1
  exact decide_eq_decide.2 (by omega)
 unfold Na Mz
 simp only [s1,s2,w1,w2,r1,r2,c1,c2,o1,o2,hw,hm,Mn,Option.bind_some]
 cases kS with
 | false=>exact ⟨5,by simp,by simp,fun h=>by cases h⟩
 | true =>
  simp only [Bool.not_true,Bool.false_eq_true,if_false]
  by_cases hA : (!Cy d.No 1 1000000 || !Hg d.At) = true
  ·rw [if_pos hA,if_pos hA]; exact ⟨1,rfl,rfl,fun h=>by cases h⟩
  ·rw [if_neg hA,if_neg hA]
   simp only [Bool.or_eq_true,not_or,Bool.not_eq_true,Bool.not_eq_false'] at hA
   have hno:=inW.1 hA.1
   have hat : 0 ≤ d.At ∧ d.At < 345686400000:=by have:=hA.2; unfold Hg at this; simpa using this
   by_cases hK : (!Cy d.Kind 1 4) = true
   ·rw [if_pos hK,if_pos hK]; exact ⟨4,rfl,rfl,fun h=>by cases h⟩
   ·rw [if_neg hK,if_neg hK]
    have hk4 : d.Kind = 1 ∨ d.Kind = 2 ∨ d.Kind = 3 ∨ d.Kind = 4:=by
     have:=inW.1 (by simpa using hK : Cy d.Kind 1 4 = true)
     omega
    rcases hk4 with hk | hk | hk | hk
    ·simp only [hk,show decide ((1 : Int) = 1) = true from rfl,show decide ((1 : Int) = 3) = false from rfl,show decide ((1 : Int) = 4) = false from rfl]
     cases kW <;> cases kR <;> cases kC <;> cases hc : decide (d.Club = Cx) <;> cases ht : Cy d.Time 0 360000 <;> cases hf : decide (d = An.mk d.Site d.No d.At 1 d.Who d.Club d.Race d.Time 0 Cx 0) <;> (try simp only [decide_true,decide_false,Bool.not_true,Bool.not_false,Bool.true_and,Bool.false_and,Bool.and_true,Bool.and_false,Bool.or_false,Bool.false_or,Bool.true_or,Bool.or_true,Bool.and_self,Bool.or_self,if_true,Bool.false_eq_true,if_false]) <;>
      first | exact ⟨5,rfl,rfl,fun h=>by cases h⟩ | exact ⟨1,rfl,rfl,fun h=>by cases h⟩ | exact ⟨3,rfl,rfl,fun h=>by cases h⟩ |
       exact ⟨0,rfl,rfl,fun _=>⟨hno,hat,by omega,s1,fun _=>⟨w1,r1⟩,fun _=>by first | exact .inl (of_decide_eq_true hc) | exact .inr c1,fun _=>inW.1 ht,fun h=>by omega,fun h=>by omega,by rw [if_pos hk,hk]; exact of_decide_eq_true hf⟩⟩
    ·simp only [hk,show decide ((2 : Int) = 1) = false from rfl,show decide ((2 : Int) = 3) = false from rfl,show decide ((2 : Int) = 4) = false from rfl]
     cases kW <;> cases kR <;> cases hf : decide (d = An.mk d.Site d.No d.At 2 d.Who Cx d.Race 0 0 Cx 0) <;> (try simp only [decide_true,decide_false,Bool.not_true,Bool.not_false,Bool.true_and,Bool.false_and,Bool.and_true,Bool.and_false,Bool.or_false,Bool.false_or,Bool.true_or,Bool.or_true,Bool.and_self,Bool.or_self,if_true,Bool.false_eq_true,if_false]) <;>
      first | exact ⟨5,rfl,rfl,fun h=>by cases h⟩ | exact ⟨1,rfl,rfl,fun h=>by cases h⟩ | exact ⟨3,rfl,rfl,fun h=>by cases h⟩ |
       exact ⟨0,rfl,rfl,fun _=>⟨hno,hat,by omega,s1,fun _=>⟨w1,r1⟩,fun h=>by omega,fun h=>by omega,fun h=>by omega,fun h=>by omega,by rw [if_neg (by omega),if_neg (by omega),if_neg (by omega),hk]; exact of_decide_eq_true hf⟩⟩
    ·simp only [hk,show decide ((3 : Int) = 1) = false from rfl,show decide ((3 : Int) = 3) = true from rfl,show decide ((3 : Int) = 4) = false from rfl]
     cases kW <;> cases kR <;> cases ht : Cy d.Time 0 360000 <;> cases hu : Cy d.Fault 0 8 <;> cases hf : decide (d = An.mk d.Site d.No d.At 3 d.Who Cx d.Race d.Time d.Fault Cx 0) <;> (try simp only [decide_true,decide_false,Bool.not_true,Bool.not_false,Bool.true_and,Bool.false_and,Bool.and_true,Bool.and_false,Bool.or_false,Bool.false_or,Bool.true_or,Bool.or_true,Bool.and_self,Bool.or_self,if_true,Bool.false_eq_true,if_false]) <;>
      first | exact ⟨5,rfl,rfl,fun h=>by cases h⟩ | exact ⟨1,rfl,rfl,fun h=>by cases h⟩ | exact ⟨3,rfl,rfl,fun h=>by cases h⟩ |
       exact ⟨0,rfl,rfl,fun _=>⟨hno,hat,by omega,s1,fun _=>⟨w1,r1⟩,fun h=>by omega,fun _=>inW.1 ht,fun _=>inW.1 hu,fun h=>by omega,by rw [if_neg (by omega),if_pos hk,hk]; exact of_decide_eq_true hf⟩⟩
    ·simp only [hk,show decide ((4 : Int) = 1) = false from rfl,show decide ((4 : Int) = 3) = false from rfl,show decide ((4 : Int) = 4) = true from rfl]
     cases kO <;> cases ho : Cy d.Other 1 1000000 <;> cases hf : decide (d = An.mk d.Site d.No d.At 4 Cx Cx Cx 0 0 d.Of d.Other) <;> (try simp only [decide_true,decide_false,Bool.not_true,Bool.not_false,Bool.true_and,Bool.false_and,Bool.and_true,Bool.and_false,Bool.or_false,Bool.false_or,Bool.true_or,Bool.or_true,Bool.and_self,Bool.or_self,if_true,Bool.false_eq_true,if_false]) <;>
      first | exact ⟨5,rfl,rfl,fun h=>by cases h⟩ | exact ⟨1,rfl,rfl,fun h=>by cases h⟩ | exact ⟨3,rfl,rfl,fun h=>by cases h⟩ |
       exact ⟨0,rfl,rfl,fun _=>⟨hno,hat,by omega,s1,fun h=>absurd hk h,fun h=>by omega,fun h=>by omega,fun h=>by omega,fun _=>⟨o1,inW.1 ho⟩,by rw [if_neg (by omega),if_neg (by omega),if_pos hk,hk]; exact of_decide_eq_true hf⟩⟩
theorem CT (y : An) : ∀ (l : List An) (i : Nat),decide (0 ≤ Dq y (-1) l i) = decide (Dw y ∈ l.map Dw)
 | [],i=>by simp [Dq]
 | z :: l,i=>by
  have ih:=CT y l (i + 1)
  rw [Dq]
  have hp : Lg z y = decide (Dw y = Dw z):=by
   unfold Lg Qp Dw
   rw [Bool.eq_iff_iff]
   simp only [Bool.and_eq_true,decide_eq_true_eq,Dp.mk.injEq]
   exact ⟨fun h=>⟨h.1.symm,h.2.symm⟩,fun h=>⟨h.1.symm,h.2.symm⟩⟩
  rw [hp]
  by_cases h : Dw y = Dw z
  ·rw [if_pos (decide_eq_true h),decide_eq_true (show 0 ≤ (i : Int) by omega),decide_eq_true (by simp [h])]
  ·rw [if_neg (by simpa using h),ih]
   exact decide_eq_decide.2 (by simp [h])
theorem EP (l : List An) : ∀ (ys dn : List An),l = dn ++ ys → (dn.map Dw).Nodup → Gv l (some 0) ys dn.length = some (if (l.map Dw).Nodup then 0 else 6)
 | [],dn,h,hd=>by
  rw [List.append_nil] at h
  subst h
  rw [if_pos hd]; rfl
 | y :: ys,dn,h,hd=>by
  have hlen : l.length = dn.length + (ys.length + 1):=by rw [h]; simp
  rw [Gv,Ij (Ss.2 (by omega))]
  have hc : cut l 0 (dn.length : Int) = dn:=by unfold cut; rw [h]; simp
  have hq : Ha dn y = decide (Dw y ∈ dn.map Dw):=CT y dn 0
  rw [hc,hq]
  by_cases hm : Dw y ∈ dn.map Dw
  ·rw [if_pos (decide_eq_true hm),if_neg]
   intro hn
   rw [h,List.map_append,List.nodup_append] at hn
   exact hn.2.2 _ hm _ (by simp) rfl
  ·rw [if_neg (by simpa using hm)]
   have ih:=EP l ys (dn ++ [y]) (by rw [h]; simp) (by
    rw [List.map_append,List.nodup_append]
    refine ⟨hd,by simp,?_⟩
    intro a ha b hb
    simp only [List.map_cons,List.map_nil,List.mem_singleton] at hb
    subst hb
    exact fun e=>hm (e ▸ ha))
   rwa [List.length_append] at ih
theorem cmpID (x y : Int) : Fk x y = if x < y then -1 else if y < x then 1 else 0:=by
 unfold Fk Pf
 simp
theorem orD3 (a b c : Int) : Sk [a,b,c] = if a ≠ 0 then a else if b ≠ 0 then b else c:=by
 unfold Sk
 simp only [Mn,Lt]
 by_cases h1 : a = 0
 ·by_cases h2 : b = 0
  ·by_cases h3 : c = 0 <;> simp [h1,h2,h3]
  ·simp [h1,h2]
 ·simp [h1]
theorem GZ (p q : An) : Kf p q = if p.At < q.At then -1 else if q.At < p.At then 1 else if cB p.Site q.Site ≠ 0 then cB p.Site q.Site else if p.No < q.No then -1 else if q.No < p.No then 1 else 0:=by
 unfold Kf
 rw [orD3,cmpID,cmpID]
 have hc : Kc p.Site q.Site = cB p.Site q.Site:=rfl
 rw [hc]
 by_cases h1 : p.At < q.At
 ·simp [h1]
 ·by_cases h2 : q.At < p.At
  ·simp [h1,h2]
  ·simp [h1,h2]
theorem orderD (p q : An) (hp : DG p) (hq : DG q) : Hp p q = Kf p q:=by
 rw [GZ]
 have a1:=hp.no
 have a2:=hp.at_
 have b1:=hq.no
 have b2:=hq.at_
 unfold Hp Qj
 have hc : Kc p.Site q.Site = cB p.Site q.Site:=rfl
 have hW1 : W (p.At - q.At) = p.At - q.At:=Px (by omega) (by omega)
 have hW2 : W (p.No - q.No) = p.No - q.No:=Px (by omega) (by omega)
 rw [hc,hW1,hW2]
 simp only [decide_eq_true_eq,Bool.not_eq_true',decide_eq_false_iff_not]
 by_cases h1 : p.At = q.At
 ·rw [if_neg (fun h=>h h1),if_neg (show ¬ p.At < q.At by omega),if_neg (show ¬ q.At < p.At by omega)]
  by_cases h2 : p.Site = q.Site
  ·simp only [h2,Ya,not_true_eq_false,if_false,ne_eq]
   split <;> split <;> (try split) <;> (try split) <;> omega
  ·rw [if_pos h2,if_pos (fun e=>h2 (GA e))]
 ·rw [if_pos h1]
  split <;> split <;> (try split) <;> (try split) <;> omega
abbrev HY (l : List An) : Prop:=∀ d x y r,l = d ++ x :: y :: r → Kf x y < 0
theorem MG (l : List An) (hl : l.length ≤ 1000000) (j : List (Dp × Bool) → Bool → Option Int) (j' : Option Int) : ∀ (ys dn : List An) (m : List (Dp × Bool)) (t : Bool),l = dn ++ ys → (∀ x ∈ dn,DG x) →
  (∀ e,Ek m e false = decide (e ∈ dn.map Dw)) → t = decide (¬ (dn.map Dw).Nodup) → (∀ d x y r,dn = d ++ x :: y :: r → Kf x y < 0) →
  (∃ e,e ≠ 0 ∧ Gm l j ys dn.length m t = some e ∧ Gg l j' ys dn.length = some e) ∨
  (∃ m',Gm l j ys dn.length m t = j m' (decide (¬ (l.map Dw).Nodup)) ∧ Gg l j' ys dn.length = j' ∧ (∀ x ∈ l,DG x) ∧ HY l)
 | [],dn,m,t,h,hg,hm,ht,ha=>by
  rw [List.append_nil] at h
  subst h
  exact .inr ⟨m,by rw [Gm,ht],rfl,hg,ha⟩
 | y :: ys,dn,m,t,h,hg,hm,ht,ha=>by
  have hlen : l.length = dn.length + (ys.length + 1):=by rw [h]; simp
  obtain ⟨e,e1,e2,e3⟩:=KR y
  rw [Gm,Gg,e1,e2]
  simp only [Option.bind_some,Mn]
  by_cases he : e = 0
  ·subst he
   have hy:=e3 rfl
   simp only [decide_true,Bool.not_true,Bool.false_eq_true,if_false]
   have go : (∀ d x,dn = d ++ [x] → Kf x y < 0) →
     (∃ e,e ≠ 0 ∧ Gm l j ys (dn.length + 1) (Fz m (Dw y) true) (t || Ek m (Dw y) false) = some e ∧ Gg l j' ys (dn.length + 1) = some e) ∨
     (∃ m',Gm l j ys (dn.length + 1) (Fz m (Dw y) true) (t || Ek m (Dw y) false) = j m' (decide (¬ (l.map Dw).Nodup)) ∧ Gg l j' ys (dn.length + 1) = j' ∧ (∀ x ∈ l,DG x) ∧ HY l):=fun hadj=>by
    have:=MG l hl j j' ys (dn ++ [y]) (Fz m (Dw y) true) (t || Ek m (Dw y) false) (by rw [h]; simp) (fun x hx=>by
     rcases List.mem_append.1 hx with hx | hx
     ·exact hg x hx
     ·obtain rfl:=List.mem_singleton.1 hx; exact hy) (fun e=>by
     rw [FZ,hm e]
     by_cases h1 : e = Dw y
     ·rw [if_pos h1]; exact (decide_eq_true (by simp [h1])).symm
     ·rw [if_neg h1]; exact decide_eq_decide.2 (by simp [h1])) (by
     rw [ht,hm,Bool.eq_iff_iff]
     simp only [Bool.or_eq_true,decide_eq_true_eq,List.map_append,List.map_cons,List.map_nil,List.nodup_append]
     constructor
     ·rintro (h1 | h1) h2
      ·exact h1 h2.1
      ·exact h2.2.2 _ h1 _ (by simp) rfl
     ·intro h1
      by_cases h2 : (dn.map Dw).Nodup
      ·refine .inr (Classical.byContradiction fun h3=>h1 ⟨h2,by simp,fun a ha b hb=>?_⟩)
       obtain rfl:=List.mem_singleton.1 hb
       exact fun e=>h3 (e ▸ ha)
      ·exact .inl h2) (fun d x z r hd=>by
     rcases List.eq_nil_or_concat r with rfl | ⟨r',b,rfl⟩
     ·have h1 : dn ++ [y] = (d ++ [x]) ++ [z]:=by rw [hd]; simp
      obtain ⟨h2,h3⟩:=List.append_inj' h1 rfl
      obtain rfl:=(List.cons.inj h3).1
      exact hadj d x h2
     ·have h1 : dn ++ [y] = (d ++ x :: z :: r') ++ [b]:=by rw [hd]; simp
      exact ha d x z r' (List.append_inj' h1 rfl).1)
    rwa [List.length_append,List.length_singleton] at this
   by_cases h0 : (0 : Int) < (dn.length : Int)
   ·obtain ⟨d,x,hdx⟩ : ∃ d x,dn = d ++ [x]:=by
     rcases List.eq_nil_or_concat dn with h1 | ⟨d,x,h1⟩
     ·rw [h1] at h0; simp at h0
     ·exact ⟨d,x,by rw [h1]; simp⟩
    have hdl : dn.length = d.length + 1:=by rw [hdx]; simp
    have hw : W ((dn.length : Int) - 1) = (d.length : Int):=by rw [Px (by omega) (by omega)]; omega
    have hn : nth l (d.length : Int) = x:=by rw [h,hdx]; unfold nth; simp
    have hx:=hg x (by rw [hdx]; simp)
    simp only [h0,decide_true,if_true,hw,Ij (show inB (d.length : Int) l.length = true from Kp.2 (by omega)),hn,orderD x y hx hy]
    by_cases hc : 0 ≤ Kf x y
    ·rw [if_pos (decide_eq_true hc),if_pos (decide_eq_true hc)]
     exact .inl ⟨7,by decide,rfl,rfl⟩
    ·rw [if_neg (by simpa using hc),if_neg (by simpa using hc)]
     refine go fun d' x' h'=>?_
     rw [hdx] at h'
     obtain ⟨_,h3⟩:=List.append_inj' h' rfl
     obtain rfl:=(List.cons.inj h3).1
     omega
   ·simp only [h0,decide_false,Bool.false_eq_true,if_false]
    refine go fun d' x' h'=>?_
    rw [h'] at h0
    simp at h0
  ·rw [if_pos (by simpa using he),if_pos (by simpa using he)]
   exact .inl ⟨e,he,rfl,rfl⟩
structure DsG (l : List An) : Prop where
 len : l.length ≤ 2000
 each : ∀ x ∈ l,DG x
 adj : HY l
 nodup : (l.map Dw).Nodup
theorem HZ (l : List An) : ∃ e,Mg l = some e ∧ Mk l = some e ∧ (e = 0 → DsG l):=by
 unfold Mg Mk
 by_cases h : 2000 < (l.length : Int)
 ·rw [if_pos (decide_eq_true h),if_pos (decide_eq_true h)]; exact ⟨2,rfl,rfl,fun h=>by cases h⟩
 ·rw [if_neg (by simpa using h),if_neg (by simpa using h)]
  simp only [Mn]
  have h2:=EP l l [] rfl List.nodup_nil
  rcases MG l (by omega) (fun x1 x2=>if x2 then some 6 else some 0) (Gv l (some 0) l 0) l [] [] false rfl (by simp) (fun e=>by simp [Ek,Zl,Kl]) (by simp) (by simp) with ⟨e,he,q1,q2⟩ | ⟨m',q1,q2,q3,q4⟩
  ·exact ⟨e,q1,q2,fun h=>absurd h he⟩
  ·rw [show ([] : List An).length = 0 from rfl] at q1 q2 h2
   rw [q1,q2,h2]
   by_cases hn : (l.map Dw).Nodup
   ·exact ⟨0,by simp [hn],by simp [hn],fun _=>⟨by omega,q3,q4,hn⟩⟩
   ·exact ⟨6,by simp [hn],by simp [hn],fun h=>by cases h⟩
end Go.Proofs.YtdndpbbimcilpaaGreatDoor
namespace Go.Proofs.YtdndpbbimcilpaaGreatDoor
open Go
section
variable {α : Type}
theorem EQ {lt : α → α → Bool} (ht : ∀ x y z,lt x y = true → lt y z = true → lt x z = true) (x : α) : ∀ rp : List α,rp.Pairwise (fun a b=>lt b a = true) → (∀ y ∈ rp,lt x y = false → lt y x = true) → (Tm lt x rp).Pairwise fun a b=>lt b a = true
 | [],_,_=>by simp [Tm]
 | y :: r,h,hx=>by
  rw [List.pairwise_cons] at h
  unfold Tm
  cases hxy : lt x y with
  | true =>
   rw [if_pos rfl]
   refine List.pairwise_cons.2 ⟨fun z hz=>?_,EQ ht x r h.2 fun z hz=>hx z (List.mem_cons_of_mem _ hz)⟩
   rcases (AA lt x z r).1 hz with rfl | hz
   ·exact hxy
   ·exact h.1 z hz
  | false =>
   rw [if_neg (by simp)]
   have h1:=hx y (by simp) hxy
   refine List.pairwise_cons.2 ⟨fun z hz=>?_,List.pairwise_cons.2 h⟩
   rcases List.mem_cons.1 hz with rfl | hz
   ·exact h1
   ·exact ht z y x (h.1 z hz) h1
theorem CU {lt : α → α → Bool} (ht : ∀ x y z,lt x y = true → lt y z = true → lt x z = true) : ∀ l rp : List α,rp.Pairwise (fun a b=>lt b a = true) → (∀ x ∈ l,∀ y ∈ rp,lt x y = false → lt y x = true) → l.Pairwise (fun a b=>lt b a = false → lt a b = true) →
  (Wh lt l rp).Pairwise fun a b=>lt b a = true
 | [],rp,h,_,_=>h
 | x :: l,rp,h,h1,h2=>by
  rw [List.pairwise_cons] at h2
  show (Wh lt l (Tm lt x rp)).Pairwise _
  refine CU ht l _ (EQ ht x rp h (h1 x (by simp))) (fun z hz y hy=>?_) h2.2
  rcases (AA lt x y rp).1 hy with rfl | hy
  ·exact h2.1 z hz
  ·exact h1 z (List.mem_cons_of_mem _ hz) y hy
theorem AU {lt : α → α → Bool} (ht : ∀ x y z,lt x y = true → lt y z = true → lt x z = true) (l : List α) (h : l.Pairwise fun a b=>lt b a = false → lt a b = true) : (Sh lt l).Pairwise fun a b=>lt a b = true:=by
 unfold Sh
 rw [List.pairwise_reverse]
 exact CU ht l [] List.Pairwise.nil (fun _ _ _ h=>by cases h) h
theorem Yb (lt : α → α → Bool) (l : List α) (z : α) : z ∈ Sh lt l ↔ z ∈ l:=by
 unfold Sh
 rw [List.mem_reverse,EO]
 simp
theorem JJ {lt : α → α → Bool} (hi : ∀ x,lt x x = false) (ht : ∀ x y z,lt x y = true → lt y z = true → lt x z = true) : ∀ A B : List α,A.Pairwise (fun a b=>lt a b = true) → B.Pairwise (fun a b=>lt a b = true) → (∀ x,x ∈ A ↔ x ∈ B) → A = B
 | [],[],_,_,_=>rfl
 | [],b :: B,_,_,h=>by have:=(h b).2 (by simp); cases this
 | a :: A,[],_,_,h=>by have:=(h a).1 (by simp); cases this
 | a :: A,b :: B,hA,hB,h=>by
  rw [List.pairwise_cons] at hA hB
  have hab : a = b:=by
   rcases List.mem_cons.1 ((h a).1 (by simp)) with e | h1
   ·exact e
   ·rcases List.mem_cons.1 ((h b).2 (by simp)) with e | h2
    ·exact e.symm
    ·have:=ht a b a (hA.1 b h2) (hB.1 a h1)
     rw [hi] at this
     cases this
  subst hab
  have : A = B:=JJ hi ht A B hA.2 hB.2 fun x=>by
   have hx:=h x
   constructor
   ·intro hm
    rcases List.mem_cons.1 (hx.1 (List.mem_cons_of_mem _ hm)) with rfl | h3
    ·have:=hA.1 x hm; rw [hi] at this; cases this
    ·exact h3
   ·intro hm
    rcases List.mem_cons.1 (hx.2 (List.mem_cons_of_mem _ hm)) with rfl | h3
    ·have:=hB.1 x hm; rw [hi] at this; cases this
    ·exact h3
  rw [this]
theorem CV (lt : α → α → Bool) : ∀ l rp : List α,(Wh lt l rp).length = l.length + rp.length
 | [],rp=>by simp [Wh]
 | x :: l,rp=>by
  show (Wh lt l (Tm lt x rp)).length = _
  rw [CV lt l,Xl]
  simp only [List.length_cons]
  omega
theorem We (lt : α → α → Bool) (l : List α) : (Sh lt l).length = l.length:=by
 unfold Sh
 rw [List.length_reverse,CV]
 simp
theorem MH {lt : α → α → Bool} (hi : ∀ x,lt x x = false) (ht : ∀ x y z,lt x y = true → lt y z = true → lt x z = true) (A B : List α) (h : A.Pairwise fun a b=>lt b a = false → lt a b = true) (hB : B.Pairwise fun a b=>lt a b = true) (hm : ∀ x,x ∈ A ↔ x ∈ B) : Sh lt A = B :=
 JJ hi ht _ _ (AU ht A h) hB fun x=>by rw [Yb,hm]
theorem ER (lt : α → α → Bool) (x : α) : ∀ rp : List α,(Tm lt x rp).Perm (x :: rp)
 | []=>List.Perm.refl _
 | y :: r=>by
  unfold Tm
  split
  ·exact ((ER lt x r).cons y).trans (List.Perm.swap x y r)
  ·exact List.Perm.refl _
theorem CW (lt : α → α → Bool) : ∀ l rp : List α,(Wh lt l rp).Perm (l ++ rp)
 | [],_=>List.Perm.refl _
 | x :: l,rp=>(CW lt l (Tm lt x rp)).trans (((ER lt x rp).append_left l).trans List.perm_middle)
theorem IA (lt : α → α → Bool) (l : List α) : (Sh lt l).Perm l:=by
 have h:=CW lt l []
 rw [List.append_nil] at h
 exact (List.reverse_perm _).trans h
variable {R : Type} [Inhabited α]
end
end Go.Proofs.YtdndpbbimcilpaaGreatDoor
namespace Go.Proofs.YtdndpbbimcilpaaGreatDoor
open Go
def Dr {α : Type} (a k : Int) (Q : α → Prop) (o : Option (α × Int)) : Prop:=∃ v b,o = some (v,b) ∧ a ≤ b ∧ b ≤ a + k ∧ Q v
abbrev AB (L : List Int) : Prop:=(L.length : Int) ≤ 9223372036854775807
section
variable {L : List Int} (hL : AB L) {a : Int} (h0 : 0 ≤ a) (h1 : a ≤ 1000000000000)
include hL h0 h1
theorem next_dr (n : Int) (hn : n ≤ 4611686018427387904) : Dr a 1 (fun v=>0 ≤ v ∧ (v < n ∨ (n < 1 ∧ v = 0))) (Mo L a n):=by
 obtain ⟨v,e,g⟩:=Xz L a n h0 (by omega) hL hn
 exact ⟨v,a + 1,e,by omega,by omega,g⟩
theorem Oi (l : List Int) (hl : 0 < l.length) (hl' : l.length ≤ 1000) : Dr a 1 (fun v=>v ∈ l) (Hq L a l):=by
 obtain ⟨v,e,g⟩:=JC L a l h0 (by omega) hL hl hl'
 exact ⟨v,a + 1,e,by omega,by omega,g⟩
theorem JK (n : Int) (hn : n ≤ 4611686018427387904) : Dr a 1 (fun _=>True) (Ot L a n):=by
 obtain ⟨v,e⟩:=JD L a n h0 (by omega) hL hn
 exact ⟨v,a + 1,e,by omega,by omega,trivial⟩
theorem Tp (l : List ByteArray) (hl : 0 < l.length) (hl' : l.length ≤ 1000) : Dr a 1 (fun v=>v ∈ l) (Kw L a l):=by
 obtain ⟨v,e1,h1,h2⟩:=Xz L a (l.length : Int) h0 (by omega) hL (by omega)
 have hc : inB v l.length = true:=Kp.2 ⟨h1,by omega⟩
 unfold Kw
 rw [e1]
 simp only [Option.bind_some]
 rw [Ij hc]
 exact ⟨nth l v,a + 1,rfl,by omega,by omega,List.mem_of_getElem? (Dc hc).1⟩
theorem Vj (low high : Int) (h2 : -1000000000000 ≤ low) (h3 : low ≤ 1000000000000) (h4 : high ≤ 1000000000000) : Dr a 1 (fun v=>low ≤ v ∧ (v ≤ high ∨ v = low)) (Kq L a low high):=by
 unfold Kq
 by_cases h : high < low
 ·exact ⟨low,a,by simp [h],by omega,by omega,by omega,.inr rfl⟩
 ·have w1 : W (high - low) = high - low:=Px (by omega) (by omega)
  have w2 : W (high - low + 1) = high - low + 1:=Px (by omega) (by omega)
  obtain ⟨v,e,g1,g2⟩:=Xz L a (high - low + 1) h0 (by omega) hL (by omega)
  rw [if_neg (by simpa using h),w1,w2,e]
  have w3 : W (low + v) = low + v:=Px (by omega) (by omega)
  exact ⟨_,_,rfl,by show a ≤ a + 1; omega,by show a + 1 ≤ a + 1; omega,by simp only [w3]; omega⟩
theorem CX (low high : Int) (h2 : -1000000000000 ≤ low) (h3 : low ≤ 1000000000000) (h4 : high ≤ 1000000000000) : Dr a 2 (fun _=>True) (Ou L a low high):=by
 obtain ⟨b,e1⟩:=JD L a 12 h0 (by omega) hL (by omega)
 unfold Ou
 rw [e1]
 simp only [Option.bind_some]
 cases b with
 | true =>
  obtain ⟨v,e,_⟩:=JC L (a + 1) [W (low - 1),W (high + 1),low,high,(-1099511627776),1099511627776] (by omega) (by omega) hL (by simp) (by simp)
  rw [if_pos rfl,e]
  exact ⟨_,_,rfl,by show a ≤ a + 1 + 1; omega,by show a + 1 + 1 ≤ a + 2; omega,trivial⟩
 | false =>
  unfold Kq
  by_cases h : high < low
  ·rw [if_neg (by simp),if_pos (by simpa using h)]
   exact ⟨_,_,rfl,by show a ≤ a + 1; omega,by show a + 1 ≤ a + 2; omega,trivial⟩
  ·have w1 : W (high - low) = high - low:=Px (by omega) (by omega)
   have w2 : W (high - low + 1) = high - low + 1:=Px (by omega) (by omega)
   obtain ⟨v,e,g1,g2⟩:=Xz L (a + 1) (high - low + 1) (by omega) (by omega) hL (by omega)
   rw [if_neg (by simp),if_neg (by simpa using h),w1,w2,e]
   exact ⟨_,_,rfl,by show a ≤ a + 1 + 1; omega,by show a + 1 + 1 ≤ a + 2; omega,trivial⟩
end
end Go.Proofs.YtdndpbbimcilpaaGreatDoor
namespace Go.Proofs.YtdndpbbimcilpaaGreatDoor
open Go
def ltD (x y : An) : Bool:=decide (Kf x y < 0)
theorem len_d : ∀ n : Fin 13,(Uy (IntKind.wrap .u64 (n.val : Int))).isSome = true:=by decide +kernel
def ltR (x y : An) : Bool:=decide (Hp x y < 0)
theorem IB (l : List An) (hl : l.length ≤ 19) : Ga l = some (Sh ltR l):=by
 have hs : Fh l 0 (l.length : Int) = some (Sh ltR l):=by
  unfold Fh
  simp only [Sb]
  have hins : ∀ (k : List An → Option (List An)) (rp : List An) (x : An) (post : List An),((rp ++ x :: post).length : Int) = (l.length : Int) → (∀ y,y ∈ rp ∨ y = x ∨ y ∈ post → y ∈ (rp ++ x :: post)) →
    Di 0 k (((rp.length : Int) - 0).toNat + 2) (rp.reverse ++ x :: post) (rp.length : Int) = k ((Tm ltR x rp).reverse ++ post):=by
   intro k rp x post h1 _
   exact JF (fun x y k=>k (ltR x y)) ltR k (Di 0 k) (fun _ _ _=>rfl) rp x post _ (by omega) (by simp at h1; omega) fun y _ k'=>rfl
  cases l with
  | nil=>rfl
  | cons x l =>
   have hw : W (0 + 1) = (([x] : List An).length : Int):=rfl
   rw [hw]
   exact CB ltR (fun x=>some x) (fun k x i=>Di 0 k ((i - 0).toNat + 2) x i) (Du ((x :: l).length : Int) 0 fun x=>some x) ((x :: l).length : Int) (fun _ _ _=>rfl)
    (fun k rp x post h1 h2=>hins k rp x post h1 h2) l [x] _ (by simp only [List.length_cons,List.length_nil]; omega) (by simp only [List.length_cons,List.length_nil]; omega) (by simp only [List.length_cons,List.length_nil] at hl ⊢; omega)
 unfold Ga Hm
 simp only [Sb]
 rw [Eg,if_neg (by simp; omega),hs]
 simp only [Option.bind_some]
 rw [Eh,if_neg (by simp; omega)]
 rfl
theorem ltD_iff (p q : An) : ltD p q = true ↔ p.At < q.At ∨ (p.At = q.At ∧ (cB p.Site q.Site < 0 ∨ (p.Site = q.Site ∧ p.No < q.No))):=by
 unfold ltD
 rw [decide_eq_true_eq,GZ]
 rcases cB_rng p.Site q.Site with h | h | h
 ·have hne : p.Site ≠ q.Site:=fun e=>by rw [e,Ya] at h; omega
  simp only [h,hne,false_and,or_false]
  split <;> (try split) <;> (try split) <;> omega
 ·have he : p.Site = q.Site:=GA h
  simp only [he,Ya,true_and,ne_eq,not_true_eq_false,if_false,Int.lt_irrefl,false_or]
  split <;> (try split) <;> (try split) <;> (try split) <;> omega
 ·have hne : p.Site ≠ q.Site:=fun e=>by rw [e,Ya] at h; omega
  simp only [h,hne,false_and,or_false]
  split <;> (try split) <;> (try split) <;> omega
theorem KS (p q r : An) (h1 : ltD p q = true) (h2 : ltD q r = true) : ltD p r = true:=by
 rw [ltD_iff] at *
 rcases h1 with h1 | ⟨a1,h1⟩ <;> rcases h2 with h2 | ⟨a2,h2⟩
 ·exact .inl (by omega)
 ·exact .inl (by omega)
 ·exact .inl (by omega)
 ·refine .inr ⟨by omega,?_⟩
  rcases h1 with h1 | ⟨b1,h1⟩ <;> rcases h2 with h2 | ⟨b2,h2⟩
  ·exact .inl (GY h1 h2)
  ·exact .inl (by rw [← b2]; exact h1)
  ·exact .inl (by rw [b1]; exact h2)
  ·exact .inr ⟨b1.trans b2,by omega⟩
theorem HY.up : ∀ {l : List An},HY l → l.Pairwise fun a b=>ltD a b = true
 | [],_=>List.Pairwise.nil
 | [x],_=>List.pairwise_singleton _ _
 | x :: y :: l,h=>by
  have h1:=HY.up (l:=y :: l) (fun d p q r e=>h (x :: d) p q r (by rw [e]; rfl))
  have h2 : ltD x y = true:=decide_eq_true (h [] x y l rfl)
  refine List.pairwise_cons.2 ⟨fun z hz=>?_,h1⟩
  rcases List.mem_cons.1 hz with rfl | hz
  ·exact h2
  ·exact KS _ _ _ h2 ((List.pairwise_cons.1 h1).1 z hz)
theorem up_DAdj {l : List An} (h : l.Pairwise fun a b=>ltD a b = true) : HY l:=by
 intro d x y r e
 subst e
 have h1:=(List.pairwise_append.1 h).2.1
 exact of_decide_eq_true ((List.pairwise_cons.1 h1).1 y List.mem_cons_self)
end Go.Proofs.YtdndpbbimcilpaaGreatDoor
namespace Go.Proofs.YtdndpbbimcilpaaGreatDoor
open Go
end Go.Proofs.YtdndpbbimcilpaaGreatDoor
namespace Go.Proofs.YtdndpbbimcilpaaGreatDoor
open Go
def ltW (x y : An) : Bool:=decide (Ky x y < 0)
theorem KT (l : List An) (hl : l.length ≤ 12) : Ge l 0 (l.length : Int) = some (Sh ltW l):=by
 unfold Ge
 simp only [Sb]
 have hins : ∀ (k : List An → Option (List An)) (rp : List An) (x : An) (post : List An),((rp ++ x :: post).length : Int) = (l.length : Int) → (∀ y,y ∈ rp ∨ y = x ∨ y ∈ post → y ∈ (rp ++ x :: post)) →
   Dk 0 k (((rp.length : Int) - 0).toNat + 2) (rp.reverse ++ x :: post) (rp.length : Int) = k ((Tm ltW x rp).reverse ++ post):=by
  intro k rp x post h1 _
  exact JF (fun x y k=>k (ltW x y)) ltW k (Dk 0 k) (fun _ _ _=>rfl) rp x post _ (by omega) (by simp at h1; omega) fun y _ k'=>rfl
 cases l with
 | nil=>rfl
 | cons x l =>
  have hw : W (0 + 1) = (([x] : List An).length : Int):=rfl
  rw [hw]
  exact CB ltW (fun x=>some x) (fun k x i=>Dk 0 k ((i - 0).toNat + 2) x i) (Dx ((x :: l).length : Int) 0 fun x=>some x) ((x :: l).length : Int) (fun _ _ _=>rfl)
   (fun k rp x post h1 h2=>hins k rp x post h1 h2) l [x] _ (by simp only [List.length_cons,List.length_nil]; omega) (by simp only [List.length_cons,List.length_nil]; omega) (by simp only [List.length_cons,List.length_nil] at hl ⊢; omega)
theorem MI (l : List An) (hl : l.length ≤ 12) : Hn l = some (Sh ltW l):=by
 unfold Hn
 obtain ⟨r,hr⟩:=Option.isSome_iff_exists.1 (len_d ⟨l.length,by omega⟩)
 simp only at hr
 rw [hr]
 simp only [Option.bind_some]
 unfold Hr
 rw [show (4611686018427387904 : Nat) = 4611686018427387903 + 1 from rfl,Et,Px (by omega) (by omega),if_pos (decide_eq_true (by omega)),KT l hl]
 rfl
theorem CY (x y : An) : ltW x y = decide (cB x.Who y.Who < 0):=rfl
theorem ltW_irr (x : An) : ltW x x = false:=by rw [CY,Ya]; rfl
theorem AV (x y z : An) (h1 : ltW x y = true) (h2 : ltW y z = true) : ltW x z = true:=by
 rw [CY,decide_eq_true_eq] at *; exact GY h1 h2
theorem GB {l : List An} (h : (l.map (·.Who)).Nodup) : l.Pairwise fun a b=>ltW b a = false → ltW a b = true:=by
 refine (List.pairwise_map.1 h).imp fun {a b} hne hb=>?_
 rw [CY,decide_eq_false_iff_not] at hb
 rw [CY,decide_eq_true_eq]
 have h0 : cB a.Who b.Who ≠ 0:=fun e=>hne (GA e)
 have:=cB_flip a.Who b.Who
 omega
end Go.Proofs.YtdndpbbimcilpaaGreatDoor
namespace Go.Proofs.YtdndpbbimcilpaaGreatDoor
open Go
theorem JL (P : List Int) (v : Int) (Q : List Int) : nth (P ++ v :: Q) (P.length : Int) = v:=by unfold nth; simp
theorem JM (P : List Int) (v u : Int) (Q : List Int) : (P ++ v :: Q).set P.length u = P ++ u :: Q:=by simp
theorem rev_l (j : List Int → Option (List Int)) : ∀ (k m : Nat) (A M B : List Int),M.length ≤ k → M.length < m → A.length + M.length + B.length ≤ 1000000 →
  Ho j m (A ++ (M ++ B)) (A.length : Int) ((A.length : Int) + (M.length : Int) - 1) = j (A ++ (M.reverse ++ B))
 | k,0,A,M,B,_,h,_=>by omega
 | k,m + 1,A,M,B,hk,hm,hl=>by
  rw [Ho]
  match M,hk,hm,hl with
  | [],_,_,_=>rw [if_neg (by simp; omega)]; rfl
  | [z],_,_,_=>rw [if_neg (by simp)]; rfl
  | a :: z :: M1,hk,hm,hl =>
   obtain ⟨M2,b,hM⟩ : ∃ M2 b,z :: M1 = M2 ++ [b]:=by
    rcases List.eq_nil_or_concat (z :: M1) with h | ⟨M2,b,h⟩
    ·cases h
    ·exact ⟨M2,b,by rw [h]; simp⟩
   rw [hM] at hk hm hl ⊢
   simp only [List.length_cons,List.length_append,List.length_nil] at hk hm hl ⊢
   have hlen : (A ++ (a :: (M2 ++ [b]) ++ B)).length = A.length + M2.length + 2 + B.length:=by simp; omega
   have e3 : (A.length : Int) + ((M2.length + (0 + 1) + 1 : Nat) : Int) - 1 = ((A.length + M2.length + 1 : Nat) : Int):=by omega
   rw [e3,if_pos (decide_eq_true (by omega))]
   have n2 : nth (A ++ (a :: (M2 ++ [b]) ++ B)) (A.length : Int) = a:=by rw [List.cons_append]; exact JL _ _ _
   have h1 : A ++ (a :: (M2 ++ [b]) ++ B) = (A ++ a :: M2) ++ b :: B:=by simp
   have h2 : (A ++ a :: M2).length = A.length + M2.length + 1:=by simp; omega
   have n3 : nth (A ++ (a :: (M2 ++ [b]) ++ B)) ((A.length + M2.length + 1 : Nat) : Int) = b:=by
    rw [h1,← h2]; exact JL _ _ _
   have hs : ((A ++ (a :: (M2 ++ [b]) ++ B)).set ((A.length : Int)).toNat b).set (((A.length + M2.length + 1 : Nat) : Int)).toNat a = (A ++ [b]) ++ (M2 ++ (a :: B)):=by
    rw [Int.toNat_natCast,Int.toNat_natCast]
    have q1 : (A ++ (a :: (M2 ++ [b]) ++ B)).set A.length b = (A ++ b :: M2) ++ b :: B:=by
     rw [List.cons_append,JM]; simp
    have q2 : (A ++ b :: M2).length = A.length + M2.length + 1:=by simp; omega
    rw [q1,← q2,JM]
    simp
   rw [Ij (Kp.2 (by omega)),Ij (Kp.2 (by omega)),Ij (Kp.2 (by omega)),Ij (Kp.2 (by rw [List.length_set]; omega)),n2,n3,hs,Px (by omega) (by omega),Px (by omega) (by omega)]
   have ih:=rev_l j (k - 2) m (A ++ [b]) M2 (a :: B) (by omega) (by omega) (by simp; omega)
   have e1 : (((A ++ [b]).length : Nat) : Int) = (A.length : Int) + 1:=by simp
   rw [e1] at ih
   have e2 : (A.length : Int) + 1 + (M2.length : Int) - 1 = ((A.length + M2.length + 1 : Nat) : Int) - 1:=by omega
   rw [e2] at ih
   rw [ih]
   simp
theorem IC (l : List Int) (hl : l.length ≤ 1000000) : Lr l = some l.reverse:=by
 unfold Lr
 rw [Mn,Px (by omega) (by omega)]
 have h:=rev_l (fun x=>some x) l.length (((l.length : Int) - 1 - 0).toNat + 2) [] l [] (Nat.le_refl _) (by omega) (by simp; omega)
 simpa using h
theorem KU (l : List An) : (List.range l.length).map (fun (i : Nat)=>nth l (i : Int)) = l:=by
 apply List.ext_getElem
 ·simp
 ·intro i h1 h2
  simp [nth,List.getD,List.getElem?_eq_getElem h2]
end Go.Proofs.YtdndpbbimcilpaaGreatDoor
namespace Go.Proofs.YtdndpbbimcilpaaGreatDoor
open Go
theorem DG.chk {d : An} (h : DG d) : Na d = some 0:=by
 have hno:=inW.2 h.no
 have hat : Hg d.At = true:=by unfold Hg; simpa using h.at_
 have hkd : Cy d.Kind 1 4 = true:=inW.2 (by rcases h.kind with h | h | h | h <;> omega)
 have hf:=h.form
 obtain ⟨kW,w1,_⟩:=Sa d.Who
 obtain ⟨kR,r1,_⟩:=Sa d.Race
 obtain ⟨kC,c1,_⟩:=Sa d.Club
 obtain ⟨kO,o1,_⟩:=Sa d.Of
 unfold Na
 simp only [h.site,w1,r1,c1,o1,Option.bind_some,hno,hat,hkd,Mn,Bool.not_true,Bool.or_self,Bool.false_eq_true,if_false]
 rcases h.kind with hk | hk | hk | hk
 ·rw [if_pos hk,hk] at hf
  obtain ⟨q1,q2⟩:=h.who (by omega)
  obtain rfl : kW = true:=Option.some.inj (w1.symm.trans q1)
  obtain rfl : kR = true:=Option.some.inj (r1.symm.trans q2)
  have ht:=inW.2 (h.time (.inl hk))
  have hc : (!decide (d.Club = Cx) && !kC) = false:=by
   rcases h.club hk with hc | hc
   ·rw [hc]; rfl
   ·obtain rfl : kC = true:=Option.some.inj (c1.symm.trans hc)
    simp
  have hd:=decide_eq_true hf
  simp only [hk,hd,ht,hc,show decide ((1 : Int) = 1) = true from rfl,show decide ((1 : Int) = 3) = false from rfl,show decide ((1 : Int) = 4) = false from rfl,decide_true,decide_false,Bool.not_true,Bool.not_false,Bool.true_and,Bool.false_and,Bool.and_true,Bool.and_false,Bool.or_false,Bool.false_or,Bool.true_or,Bool.or_true,Bool.and_self,Bool.or_self,if_true,Bool.false_eq_true,if_false]
  cases decide (d.Club = Cx) <;> simp only [decide_true,decide_false,Bool.not_true,Bool.not_false,Bool.true_and,Bool.false_and,Bool.and_true,Bool.and_false,Bool.or_false,Bool.false_or,Bool.true_or,Bool.or_true,Bool.and_self,Bool.or_self,if_true,Bool.false_eq_true,if_false]
 ·rw [if_neg (by omega),if_neg (by omega),if_neg (by omega),hk] at hf
  obtain ⟨q1,q2⟩:=h.who (by omega)
  obtain rfl : kW = true:=Option.some.inj (w1.symm.trans q1)
  obtain rfl : kR = true:=Option.some.inj (r1.symm.trans q2)
  have hd:=decide_eq_true hf
  simp only [hk,hd,Bool.not_true,show decide ((2 : Int) = 1) = false from rfl,show decide ((2 : Int) = 3) = false from rfl,show decide ((2 : Int) = 4) = false from rfl,decide_true,decide_false,Bool.not_true,Bool.not_false,Bool.true_and,Bool.false_and,Bool.and_true,Bool.and_false,Bool.or_false,Bool.false_or,Bool.true_or,Bool.or_true,Bool.and_self,Bool.or_self,if_true,Bool.false_eq_true,if_false]
 ·rw [if_neg (by omega),if_pos hk,hk] at hf
  obtain ⟨q1,q2⟩:=h.who (by omega)
  obtain rfl : kW = true:=Option.some.inj (w1.symm.trans q1)
  obtain rfl : kR = true:=Option.some.inj (r1.symm.trans q2)
  have ht:=inW.2 (h.time (.inr hk))
  have hu:=inW.2 (h.fault hk)
  have hd:=decide_eq_true hf
  simp only [hk,hd,ht,hu,show decide ((3 : Int) = 1) = false from rfl,show decide ((3 : Int) = 3) = true from rfl,show decide ((3 : Int) = 4) = false from rfl,decide_true,decide_false,Bool.not_true,Bool.not_false,Bool.true_and,Bool.false_and,Bool.and_true,Bool.and_false,Bool.or_false,Bool.false_or,Bool.true_or,Bool.or_true,Bool.and_self,Bool.or_self,if_true,Bool.false_eq_true,if_false]
 ·rw [if_neg (by omega),if_neg (by omega),if_pos hk,hk] at hf
  obtain ⟨q1,q2⟩:=h.of_ hk
  obtain rfl : kO = true:=Option.some.inj (o1.symm.trans q1)
  have hu:=inW.2 q2
  have hd:=decide_eq_true hf
  simp only [hk,hd,hu,show decide ((4 : Int) = 1) = false from rfl,show decide ((4 : Int) = 3) = false from rfl,show decide ((4 : Int) = 4) = true from rfl,decide_true,decide_false,Bool.not_true,Bool.not_false,Bool.true_and,Bool.false_and,Bool.and_true,Bool.and_false,Bool.or_false,Bool.false_or,Bool.true_or,Bool.or_true,Bool.and_self,Bool.or_self,if_true,Bool.false_eq_true,if_false]
theorem DsG.sub {x p : List An} (h : DsG x) (s : p.Sublist x) : DsG p :=
 ⟨Nat.le_trans s.length_le h.len,fun y hy=>h.each y (s.subset hy),up_DAdj (h.adj.up.sublist s),h.nodup.sublist (s.map _)⟩
theorem chk_l (l : List An) (h : DsG l) (j : List (Dp × Bool) → Bool → Option Int) : ∀ (ys dn : List An) (m : List (Dp × Bool)),l = dn ++ ys → (∀ e,Ek m e false = decide (e ∈ dn.map Dw)) →
  ∃ m',Gm l j ys dn.length m false = j m' false
 | [],dn,m,_,_=>⟨m,rfl⟩
 | y :: ys,dn,m,hd,hm=>by
  have hl:=h.len
  have hlen : l.length = dn.length + (ys.length + 1):=by rw [hd]; simp
  have hy:=(h.each y (by rw [hd]; simp)).chk
  have hns : Dw y ∉ dn.map Dw:=fun hin=>by
   have hn:=h.nodup
   rw [hd,List.map_append,List.nodup_append] at hn
   exact hn.2.2 _ hin _ (by simp) rfl
  obtain ⟨m',e⟩:=chk_l l h j ys (dn ++ [y]) (Fz m (Dw y) true) (by rw [hd]; simp) (fun e=>by
   rw [FZ,hm e]
   by_cases h1 : e = Dw y
   ·rw [if_pos h1]; exact (decide_eq_true (by simp [h1])).symm
   ·rw [if_neg h1]; exact decide_eq_decide.2 (by simp [h1]))
  rw [List.length_append,List.length_singleton] at e
  refine ⟨m',?_⟩
  rw [Gm,hy]
  simp only [Option.bind_some,Mn,decide_true,Bool.not_true,Bool.false_eq_true,if_false,hm,decide_eq_false hns,Bool.or_self]
  by_cases h0 : (0 : Int) < (dn.length : Int)
  ·obtain ⟨d,x,hdx⟩ : ∃ d x,dn = d ++ [x]:=by
    rcases List.eq_nil_or_concat dn with h1 | ⟨d,x,h1⟩
    ·rw [h1] at h0; simp at h0
    ·exact ⟨d,x,by rw [h1]; simp⟩
   have hdl : dn.length = d.length + 1:=by rw [hdx]; simp
   have hw : W ((dn.length : Int) - 1) = (d.length : Int):=by rw [Px (by omega) (by omega)]; omega
   have hn : nth l (d.length : Int) = x:=by rw [hd,hdx]; unfold nth; simp
   have hc : ¬ 0 ≤ Kf x y:=by
    have:=h.adj d x y ys (by rw [hd,hdx]; simp)
    omega
   simp only [h0,decide_true,if_true,hw,Ij (show inB (d.length : Int) l.length = true from Kp.2 (by omega)),hn,hc,decide_false,Bool.false_eq_true,if_false]
   exact e
  ·simp only [h0,decide_false,Bool.false_eq_true,if_false]
   exact e
theorem DsG.chk {l : List An} (h : DsG l) : Mg l = some 0:=by
 have hl:=h.len
 unfold Mg
 rw [if_neg (by simp; omega)]
 simp only [Mn]
 obtain ⟨m',e⟩:=chk_l l h (fun x1 x2=>if x2 then some 6 else some 0) l [] [] rfl (fun e=>by simp [Ek,Zl,Kl])
 rw [show ([] : List An).length = 0 from rfl] at e
 rw [e]
 rfl
end Go.Proofs.YtdndpbbimcilpaaGreatDoor
