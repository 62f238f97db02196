/- Entries of a race that are sorted by who they are of. No program stands here but its twins. -/
import Derived.Test.YtjofndbcioknfaaGreatDoorTw
/- Plain facts on the stream of choices. No program stands here but its twins. -/
namespace Go.Proofs.YtjofndbcioknfaaGreatDoor
open Go

theorem Gi {R : Type} {c : Bool} {k : Option R} (h : c = true) : Chk c k = k:=by simp [Chk,h]
theorem Lf {κ R : Type} (K : κ) (f : κ → R) : Hc K f = f K:=rfl
theorem IH {x n : Int} (hn : 0 < n) : -n < Int.tmod x n ∧ Int.tmod x n < n:=by
 have h1:=Int.tmod_lt_of_pos x hn
 have h2:=Int.tmod_lt_of_pos (-x) hn
 rw [Int.neg_tmod] at h2
 omega
theorem KJ (x n : Int) (hn : n ≤ 4611686018427387904) : ∃ v,Rq x n = some v ∧ 0 ≤ v ∧ (v < n ∨ (n < 1 ∧ v = 0)):=by
 unfold Rq
 by_cases h : n < 1
 ·exact ⟨0,by simp [h],Int.le_refl _,.inr ⟨h,rfl⟩⟩
 ·have h1:=IH (x:=x) (n:=n) (by omega)
  have h0 : ¬ n = 0:=by omega
  simp only [decide_eq_true_eq,h,if_false,Hc]
  rw [Gi (by simp [h0])]
  by_cases h2 : Int.tmod x n < 0
  ·rw [if_pos h2,Pa (by omega) (by omega)]
   exact ⟨_,rfl,by omega,.inl (by omega)⟩
  ·rw [if_neg h2]
   exact ⟨_,rfl,by omega,.inl (by omega)⟩
theorem EH (L : List Int) (a n : Int) (ha : 0 ≤ a) (ha' : a ≤ 4611686018427387904) (hL : (L.length : Int) ≤ 9223372036854775807) (hn : n ≤ 4611686018427387904) :
  ∃ v,Ri L a n = some (v,a + 1) ∧ 0 ≤ v ∧ (v < n ∨ (n < 1 ∧ v = 0)):=by
 have w1 : W (a + 1) = a + 1:=Pa (by omega) (by omega)
 have w2 : W (a + 1 - 1) = a:=by rw [show a + 1 - 1 = a by omega]; exact Pa (by omega) (by omega)
 unfold Ri
 rw [w1,w2]
 by_cases h : (L.length : Int) = 0
 ·obtain ⟨v,h1,h2,h3⟩:=KJ (W ((a + 1) * 7919)) n hn
  exact ⟨v,by simp [h,h1],h2,h3⟩
 ·have h0 : 0 < (L.length : Int):=by omega
  have hm:=IH (x:=a) h0
  have hm0 : 0 ≤ Int.tmod a (L.length : Int):=Int.tmod_nonneg _ ha
  have hc : inB (Int.tmod a (L.length : Int)) L.length = true:=Kb.2 ⟨hm0,hm.2⟩
  obtain ⟨v1,e1,_,_⟩:=KJ (nth L (Int.tmod a (L.length : Int))) 1073741824 (by omega)
  simp only [decide_eq_true_eq,h,if_false]
  rw [Gi (by simp),Gi (by simp),Gi hc,e1]
  simp only [Option.bind_some]
  obtain ⟨v2,e2,g1,g2⟩:=KJ (W (v1 + W (W (Int.tdiv a (L.length : Int)) * W (7919 + Int.tmod a (L.length : Int))))) n hn
  exact ⟨v2,by rw [e2]; rfl,g1,g2⟩
theorem TM (L : List Int) (a : Int) (l : List Int) (ha : 0 ≤ a) (ha' : a ≤ 4611686018427387904) (hL : (L.length : Int) ≤ 9223372036854775807) (hl : 0 < l.length) (hl' : l.length ≤ 1000) :
  ∃ v,Kr L a l = some (v,a + 1) ∧ v ∈ l:=by
 obtain ⟨v,h1,h2,h3⟩:=EH L a (l.length : Int) ha ha' hL (by omega)
 have h4 : v < (l.length : Int):=by omega
 have hc : inB v l.length = true:=Kb.2 ⟨h2,h4⟩
 unfold Kr
 rw [h1]
 simp only [Option.bind_some]
 rw [Gi hc]
 exact ⟨nth l v,rfl,List.mem_of_getElem? (Es hc).1⟩
theorem TN (L : List Int) (a n : Int) (ha : 0 ≤ a) (ha' : a ≤ 4611686018427387904) (hL : (L.length : Int) ≤ 9223372036854775807) (hn : n ≤ 4611686018427387904) : ∃ b,Ts L a n = some (b,a + 1):=by
 obtain ⟨v,h1,_,_⟩:=EH L a n ha ha' hL hn
 unfold Ts
 rw [h1]
 exact ⟨_,rfl⟩
end Go.Proofs.YtjofndbcioknfaaGreatDoor
/- Keys: what the program and the document ask of a key is the same. No program stands here but its twins. -/
namespace Go.Proofs.YtjofndbcioknfaaGreatDoor
open Go

theorem OM {l : List UInt8} {c : UInt8} : decide (Lib.indexByte l c < 0) = !l.contains c:=by
 have key : ∀ l : List UInt8,(Lib.indexByte l c = -1 ∧ l.contains c = false) ∨ (0 ≤ Lib.indexByte l c ∧ l.contains c = true):=by
  intro l
  induction l with
  | nil=>exact .inl ⟨rfl,rfl⟩
  | cons b l ih =>
   by_cases hb : b = c
   ·subst hb; exact .inr (by simp [Lib.indexByte])
   ·have hb' : (b == c) = false:=by simpa using hb
    have hc : (c == b) = false:=by simpa using fun h=>hb h.symm
    rcases ih with ⟨h1,h2⟩ | ⟨h1,h2⟩
    ·refine .inl ⟨by simp [Lib.indexByte,hb',h1],?_⟩
     rw [List.contains_cons,hc,h2]; rfl
    ·have h3 : ¬ Lib.indexByte l c = -1:=by omega
     refine .inr ⟨by simp [Lib.indexByte,hb',h3]; omega,?_⟩
     rw [List.contains_cons,hc,h2]; rfl
 rcases key l with ⟨h1,h2⟩ | ⟨h1,h2⟩
 ·rw [h1,h2]; rfl
 ·rw [h2]; simp; omega
theorem VJ (u : UInt8) : ((u.toNat : Int)).toNat.toUInt8 = u:=by simp
theorem BD (s : ByteArray) : s.size = s.data.toList.length:=by rw [ByteArray.size,Array.length_toList]
theorem MO {s : ByteArray} {j : Nat} {u : UInt8} (h : s.data.toList[j]? = some u) : Zz s (j : Int) = (u.toNat : Int):=by
 unfold Zz
 rw [Int.toNat_natCast]
 simp [List.getD,h]
theorem VK (s some_ : ByteArray) : ∀ (k : Nat) (m : Nat),k + m = s.size + 1 → s.size ≤ 4611686018427387904 →
  Ml s some_ (some true) (m + 1) (k : Int) = some ((s.data.toList.drop k).all fun b=>some_.data.toList.contains b):=by
 intro k m
 induction m generalizing k with
 | zero =>
  intro h hs
  have h1 : ¬ (k : Int) < (s.size : Int):=by omega
  rw [Ml]
  rw [if_neg (by simpa using h1),List.drop_of_length_le (by rw [← BD]; omega)]
  rfl
 | succ m ih =>
  intro h hs
  rw [Ml]
  by_cases h1 : (k : Int) < (s.size : Int)
  ·have hk : k < s.data.toList.length:=by rw [← BD]; omega
   have hget : s.data.toList[k]? = some s.data.toList[k]:=List.getElem?_eq_getElem hk
   rw [if_pos (decide_eq_true h1),Gi (Kb.2 ⟨by omega,h1⟩),List.drop_eq_getElem_cons hk,List.all_cons]
   have hb : decide (Uw some_ (Zz s (k : Int)) < 0) = !some_.data.toList.contains s.data.toList[k]:=by
    unfold Uw
    rw [MO hget,VJ,OM]
   rw [hb]
   cases hc : some_.data.toList.contains s.data.toList[k] with
   | false=>simp
   | true =>
    simp only [Bool.not_true,Bool.false_eq_true,if_false,Bool.true_and]
    have hw : W ((k : Int) + 1) = ((k + 1 : Nat) : Int):=by rw [Pa (by omega) (by omega)]; omega
    rw [hw]
    exact ih (k + 1) (by omega) hs
  ·rw [if_neg (by simpa using h1),List.drop_of_length_le (by rw [← BD]; omega)]
   rfl
theorem TO (s some_ : ByteArray) (hs : s.size ≤ 4611686018427387904) : Uq s some_ = some (s.data.toList.all fun b=>some_.data.toList.contains b):=by
 unfold Uq
 rw [Lf]
 have h:=VK s some_ 0 (s.size + 1) (by omega) hs
 have e : ((s.size : Int) - 0).toNat + 2 = s.size + 1 + 1:=by omega
 rw [e]
 exact h
theorem Yk {p : UInt8 → Bool} : ∀ {l : List UInt8},l.dropWhile p = [] ↔ l.all p = true
 | []=>by simp
 | a :: l=>by
  rw [List.dropWhile_cons,List.all_cons]
  cases h : p a with
  | true=>simpa [h] using Yk (p:=p) (l:=l)
  | false=>simp
theorem XN {l cs : List UInt8} : Lib.trimS l cs = [] ↔ l.all (fun b=>cs.contains b) = true:=by
 unfold Lib.trimS Lib.trimLeftS Lib.trimRightS
 rw [Yk,List.all_reverse]
 constructor
 ·intro h
  have h2 : l.reverse.dropWhile (fun x=>cs.contains x) = []:=by
   cases hd : l.reverse.dropWhile (fun x=>cs.contains x) with
   | nil=>rfl
   | cons a r =>
    have h3:=List.head_dropWhile_not (fun x=>cs.contains x) (l:=l.reverse) (by rw [hd]; simp)
    rw [hd] at h
    simp only [hd,List.head_cons] at h3
    rw [List.all_cons,h3] at h
    cases h
  rw [Yk,List.all_reverse] at h2
  exact h2
 ·intro h
  have h2 : l.reverse.dropWhile (fun x=>cs.contains x) = []:=by rw [Yk,List.all_reverse]; exact h
  rw [h2]; rfl
end Go.Proofs.YtjofndbcioknfaaGreatDoor
/- Keys,the two readings joined. No program stands here but its twins. -/
namespace Go.Proofs.YtjofndbcioknfaaGreatDoor
open Go

theorem VL (u : UInt8) : Lu.data.toList.contains u = (decide (97 ≤ (u.toNat : Int)) && decide ((u.toNat : Int) ≤ 122)):=by
 have key : ∀ n : Fin 256,Lu.data.toList.contains (UInt8.ofNat n.val) = (decide (97 ≤ (((UInt8.ofNat n.val).toNat : Nat) : Int)) && decide ((((UInt8.ofNat n.val).toNat : Nat) : Int) ≤ 122)):=by decide +kernel
 have h:=key ⟨u.toNat,u.toNat_lt⟩
 simpa using h
theorem VM : (Je.data.toList.all fun b=>decide (b.toNat < 128)) = true:=by decide +kernel
theorem VN (l : List UInt8) : ((⟨l.toArray⟩ : ByteArray) = An) ↔ l = []:=by
 constructor
 ·intro h
  have h2:=congrArg (fun b : ByteArray=>b.data.toList) h
  simpa [An] using h2
 ·rintro rfl; rfl
theorem Xw (s : ByteArray) : ∃ b,Gy s = some b ∧ Qi s = some b:=by
 by_cases hs : 1 ≤ s.size ∧ s.size ≤ 40
 ·obtain ⟨h1,h2⟩:=hs
  have hsz:=BD s
  obtain ⟨u,r,hl⟩ : ∃ u r,s.data.toList = u :: r:=by
   cases h : s.data.toList with
   | nil=>rw [h] at hsz; exact absurd hsz (by show ¬ s.size = 0; omega)
   | cons u r=>exact ⟨u,r,rfl⟩
  have hin : Ln (s.size : Int) 1 40 = true:=by unfold Ln; simp; omega
  have hwin : (decide (1 ≤ (s.size : Int)) && decide ((s.size : Int) ≤ 40)) = true:=by simp; omega
  have hb0 : inB 0 s.size = true:=Kb.2 ⟨by omega,by omega⟩
  have hc0 : CI 0 1 s.size = true:=Vc.2 ⟨by omega,by omega,by omega⟩
  have hu : Zz s 0 = (u.toNat : Int):=MO (j:=0) (by rw [hl]; rfl)
  have hcut : (OX s 0 1).data.toList = [u]:=by
   unfold OX
   simp [hl]
  have hcsz : (OX s 0 1).size ≤ 4611686018427387904:=by rw [BD,hcut]; simp
  have hall:=TO s Je (by omega)
  have hone:=TO (OX s 0 1) Lu hcsz
  rw [hcut] at hone
  simp only [List.all_cons,List.all_nil,Bool.and_true,VL] at hone
  have htrim : Xo s Je = some ⟨(Lib.trimS s.data.toList Je.data.toList).toArray⟩:=by
   unfold Xo
   rw [Gi (by simp; omega),Gi (by decide +kernel),Gi VM]
  have htr : decide ((⟨(Lib.trimS s.data.toList Je.data.toList).toArray⟩ : ByteArray) = An) = s.data.toList.all fun b=>Je.data.toList.contains b:=by
   rw [Bool.eq_iff_iff,decide_eq_true_eq,VN,XN]
  refine ⟨(decide (97 ≤ (u.toNat : Int)) && decide ((u.toNat : Int) ≤ 122)) && s.data.toList.all fun b=>Je.data.toList.contains b,?_,?_⟩
  ·unfold Gy
   simp only [Lf,hwin,if_true,Bool.true_and,Gi hb0,hu]
   by_cases g1 : 97 ≤ (u.toNat : Int)
   ·simp only [g1,decide_true,if_true,Bool.true_and]
    by_cases g2 : (u.toNat : Int) ≤ 122
    ·simp only [g2,decide_true,if_true,Bool.true_and,htrim,Option.bind_some,htr]
    ·simp only [g2,decide_false,Bool.false_eq_true,if_false,Bool.false_and]
   ·simp only [g1,decide_false,Bool.false_eq_true,if_false,Bool.false_and]
  ·unfold Qi
   simp only [Lf,hin,if_true,Bool.true_and,Gi hc0,hone,Option.bind_some]
   cases hz : (decide (97 ≤ (u.toNat : Int)) && decide ((u.toNat : Int) ≤ 122)) with
   | true=>simp only [if_true,hall,Option.bind_some,Bool.true_and]
   | false=>simp only [Bool.false_eq_true,if_false,Bool.false_and]
 ·refine ⟨false,?_,?_⟩
  ·have hwin : (decide (1 ≤ (s.size : Int)) && decide ((s.size : Int) ≤ 40)) = false:=by simp; omega
   unfold Gy
   simp only [Lf,hwin,Bool.false_eq_true,if_false,Bool.false_and]
  ·have hin : Ln (s.size : Int) 1 40 = false:=by unfold Ln; simp; omega
   unfold Qi
   simp only [Lf,hin,Bool.false_eq_true,if_false,Bool.false_and]
end Go.Proofs.YtjofndbcioknfaaGreatDoor
/- Maps,as lists of entries. No program stands here. -/
namespace Go.Proofs.YtjofndbcioknfaaGreatDoor
open Go
theorem GR {κ ν : Type} [DecidableEq κ] (k k' : κ) (v : ν) : ∀ (m : List (κ × ν)) (i : Nat),(Oi (Hj m k v) k' i).map (·.2) = if k' = k then some v else (Oi m k' i).map (·.2)
 | [],i=>by
  by_cases h : k' = k <;> simp [Hj,Oi,h]
 | (q,u) :: m,i=>by
  by_cases h1 : k = q
  ·subst h1
   by_cases h2 : k' = k <;> simp [Hj,Oi,h2]
  ·by_cases h2 : k' = q
   ·subst h2
    simp [Hj,Oi,h1]
    exact fun h=>(h1 h.symm).elim
   ·simp only [Hj,h1,if_false,Oi,h2]
    exact GR k k' v m (i + 1)
theorem Yl {κ ν : Type} [DecidableEq κ] (m : List (κ × ν)) (k k' : κ) (v d : ν) : Et (Hj m k v) k' d = if k' = k then v else Et m k' d:=by
 unfold Et Ut
 rw [GR]
 split <;> simp
end Go.Proofs.YtjofndbcioknfaaGreatDoor
/- Go's library loops in general: a search,a list that loses elements,an insertion sort. Conditions: the lists are not long; the loops' equations are given. No program stands here. -/
namespace Go.Proofs.YtjofndbcioknfaaGreatDoor
open Go
theorem Oj {κ R : Type} (K : κ) (f : κ → R) : Hc K f = f K:=rfl
theorem VO {R : Type} {c : Bool} {k : Option R} (h : c = true) : Chk c k = k:=by subst h; rfl
section
variable {α R : Type}
variable [Inhabited α]
theorem Ym (a : List α) (y : α) (b : List α) {e : Int} (he : e = (a.length : Int)) : nth (a ++ y :: b) e = y:=by
 subst he
 simp [nth]
def Vt (lt : α → α → Bool) (x : α) : List α → List α
 | []=>[x]
 | y :: r=>if lt x y then y :: Vt lt x r else x :: y :: r
def Xf (lt : α → α → Bool) (l rp : List α) : List α:=l.foldl (fun rp x=>Vt lt x rp) rp
def Qd (lt : α → α → Bool) (l : List α) : List α:=(Xf lt l []).reverse
omit [Inhabited α] in
theorem DU (lt : α → α → Bool) (x : α) : ∀ l : List α,(Vt lt x l).length = l.length + 1
 | []=>rfl
 | y :: r=>by
  unfold Vt
  split
  ·simp [DU lt x r]
  ·rfl
omit [Inhabited α] in
theorem BE (lt : α → α → Bool) (x z : α) : ∀ l : List α,z ∈ Vt lt x l ↔ z = x ∨ z ∈ l
 | []=>by simp [Vt]
 | y :: r=>by
  unfold Vt
  split
  ·simp only [List.mem_cons,BE lt x z r]
   constructor
   ·rintro (h | h | h)
    ·exact .inr (.inl h)
    ·exact .inl h
    ·exact .inr (.inr h)
   ·rintro (h | h | h)
    ·exact .inr (.inl h)
    ·exact .inl h
    ·exact .inr (.inr h)
  ·simp
theorem MP (C : α → α → (Bool → Option R) → Option R) (lt : α → α → Bool) (j : List α → Option R) (F : Nat → List α → Int → Option R)
  (h : ∀ m x i,F (m + 1) x i = if decide (0 < i) then Chk (inB i x.length) (Chk (inB (W (i - 1)) x.length) (C (nth x i) (nth x (W (i - 1))) (fun b=>if b then
   Chk (inB (W (i - 1)) x.length) (Chk (inB i x.length) (Chk (inB i x.length) (Chk (inB (W (i - 1)) (x.set i.toNat (nth x (W (i - 1)))).length) (F m ((x.set i.toNat (nth x (W (i - 1)))).set (W (i - 1)).toNat (nth x i)) (W (i - 1)))))) else j x))) else j x) :
  ∀ (rp : List α) (x : α) (post : List α) (m : Nat),rp.length < m → rp.length + post.length < 1073741824 → (∀ y ∈ rp,∀ k,C x y k = k (lt x y)) →
   F m (rp.reverse ++ x :: post) (rp.length : Int) = j ((Vt lt x rp).reverse ++ post)
 | [],x,post,m,h1,h2,_=>by
  obtain ⟨m,rfl⟩ : ∃ q,m = q + 1:=⟨m - 1,by omega⟩
  rw [h,if_neg (by simp)]
  rfl
 | y :: r,x,post,m,h1,h2,hC=>by
  obtain ⟨m,rfl⟩ : ∃ q,m = q + 1:=⟨m - 1,by omega⟩
  simp only [List.length_cons] at h1 h2
  have e0 : (y :: r).reverse ++ x :: post = r.reverse ++ y :: x :: post:=by simp
  have e0' : r.reverse ++ y :: x :: post = (r.reverse ++ [y]) ++ x :: post:=by simp
  have wi : W ((((y :: r).length : Nat) : Int) - 1) = (r.length : Int):=by rw [Pa (by simp only [List.length_cons]; omega) (by simp only [List.length_cons]; omega)]; simp
  have n1 : nth (r.reverse ++ y :: x :: post) (((y :: r).length : Nat) : Int) = x:=by rw [e0']; exact Ym _ _ _ (by simp)
  have n2 : nth (r.reverse ++ y :: x :: post) (r.length : Int) = y:=Ym _ _ _ (by simp)
  have b1 : inB (((y :: r).length : Nat) : Int) (r.reverse ++ y :: x :: post).length = true:=Kb.2 ⟨by omega,by simp; omega⟩
  have b2 : inB (r.length : Int) (r.reverse ++ y :: x :: post).length = true:=Kb.2 (by simp; omega)
  rw [h,e0,if_pos (decide_eq_true (by simp only [List.length_cons]; omega)),wi,VO b1,VO b2,n1,n2,hC y List.mem_cons_self]
  unfold Vt
  cases hb : lt x y with
  | true =>
   simp only [if_true]
   rw [VO b2,VO b1,VO b1,VO (by rw [List.length_set]; exact b2)]
   have e1 : ((r.reverse ++ y :: x :: post).set (((y :: r).length : Nat) : Int).toNat y).set (r.length : Int).toNat x = r.reverse ++ x :: (y :: post):=by
    have e2 : (r.reverse ++ y :: x :: post).set (((y :: r).length : Nat) : Int).toNat y = r.reverse ++ y :: y :: post:=by
     rw [e0',show (((y :: r).length : Nat) : Int).toNat = (r.reverse ++ [y]).length by simp,List.set_append_right _ _ (Nat.le_refl _)]
     simp
    rw [e2,show (r.length : Int).toNat = r.reverse.length by simp,List.set_append_right _ _ (Nat.le_refl _)]
    simp
   rw [e1,MP C lt j F h r x (y :: post) m (by omega) (by simp; omega) (fun z hz=>hC z (List.mem_cons_of_mem _ hz))]
   simp
  | false=>simp
omit [Inhabited α] in
theorem EI (lt : α → α → Bool) (j : List α → Option R) (G : (List α → Option R) → List α → Int → Option R) (F : Nat → List α → Int → Option R) (n : Int)
  (h : ∀ m x i,F (m + 1) x i = if decide (i < n) then G (fun x=>F m x (W (i + 1))) x i else j x)
  (hG : ∀ k (rp : List α) (x : α) (post : List α),((rp ++ x :: post).length : Int) = n → (∀ y,y ∈ rp ∨ y = x ∨ y ∈ post → y ∈ (rp ++ x :: post)) → G k (rp.reverse ++ x :: post) (rp.length : Int) = k ((Vt lt x rp).reverse ++ post)) :
  ∀ (rest rp : List α) (m : Nat),rest.length < m → ((rp.length + rest.length : Nat) : Int) = n → rp.length + rest.length < 1073741824 →
   F m (rp.reverse ++ rest) (rp.length : Int) = j (Xf lt rest rp).reverse
 | [],rp,m,h1,h2,_=>by
  obtain ⟨m,rfl⟩ : ∃ q,m = q + 1:=⟨m - 1,by omega⟩
  rw [h,if_neg (by simp at h2; simp; omega)]
  simp [Xf]
 | x :: r,rp,m,h1,h2,h3=>by
  obtain ⟨m,rfl⟩ : ∃ q,m = q + 1:=⟨m - 1,by omega⟩
  simp only [List.length_cons] at h1 h2 h3
  rw [h,if_pos (by simp; omega),hG _ rp x r (by simp; omega) (fun y hy=>by simpa using hy),show W ((rp.length : Int) + 1) = ((Vt lt x rp).length : Int) by rw [Pa (by omega) (by omega),DU]; rfl,
   EI lt j G F n h hG r (Vt lt x rp) m (by omega) (by rw [DU]; omega) (by rw [DU]; omega)]
  rfl
omit [Inhabited α] in
theorem MQ (lt : α → α → Bool) (z : α) : ∀ l rp : List α,z ∈ Xf lt l rp ↔ z ∈ l ∨ z ∈ rp
 | [],rp=>by simp [Xf]
 | x :: l,rp=>by
  show z ∈ Xf lt l (Vt lt x rp) ↔ _
  rw [MQ lt z l,BE]
  simp only [List.mem_cons]
  constructor
  ·rintro (h | h | h)
   ·exact .inl (.inr h)
   ·exact .inl (.inl h)
   ·exact .inr h
  ·rintro ((h | h) | h)
   ·exact .inr (.inl h)
   ·exact .inl h
   ·exact .inr (.inr h)
omit [Inhabited α] in
end
end Go.Proofs.YtjofndbcioknfaaGreatDoor
/- Loops over lists in general: what is picked and appended,what is contained,lists that are equal,neighbours that are struck. Conditions: the lists are not long; the loops' equations are given. No program stands here. -/
namespace Go.Proofs.YtjofndbcioknfaaGreatDoor
open Go
section
variable {α β R : Type}
variable [DecidableEq α] [Inhabited α]
end
section
variable {α R : Type} [Inhabited α]
end
end Go.Proofs.YtjofndbcioknfaaGreatDoor
/- The order of strings,byte by byte,is an order. No program stands here. -/
namespace Go.Proofs.YtjofndbcioknfaaGreatDoor
open Go
theorem TP : ∀ l : List UInt8,Lib.compareBytes l l = 0
 | []=>rfl
 | a :: l=>by
  rw [Lib.compareBytes,if_neg (by simp),if_neg (by simp)]; exact TP l
theorem TQ : ∀ l m : List UInt8,Lib.compareBytes l m = 0 → l = m
 | [],[],_=>rfl
 | [],_ :: _,h=>by simp [Lib.compareBytes] at h
 | _ :: _,[],h=>by simp [Lib.compareBytes] at h
 | a :: l,b :: m,h=>by
  rw [Lib.compareBytes] at h
  split at h
  ·cases h
  ·split at h
   ·cases h
   ·rename_i h1 h2
    rw [UInt8.lt_iff_toNat_lt] at h1 h2
    rw [TQ l m h,show a = b from UInt8.toNat_inj.1 (by omega)]
theorem XO : ∀ l m : List UInt8,Lib.compareBytes l m = -1 ∨ Lib.compareBytes l m = 0 ∨ Lib.compareBytes l m = 1
 | [],[]=>.inr (.inl rfl)
 | [],_ :: _=>.inl rfl
 | _ :: _,[]=>.inr (.inr rfl)
 | a :: l,b :: m=>by
  rw [Lib.compareBytes]
  split
  ·exact .inl rfl
  ·split
   ·exact .inr (.inr rfl)
   ·exact XO l m
theorem TR : ∀ l m : List UInt8,Lib.compareBytes m l = - Lib.compareBytes l m
 | [],[]=>rfl
 | [],_ :: _=>rfl
 | _ :: _,[]=>rfl
 | a :: l,b :: m=>by
  rw [Lib.compareBytes,Lib.compareBytes,TR l m]
  simp only [UInt8.lt_iff_toNat_lt]
  by_cases h1 : a.toNat < b.toNat
  ·rw [if_neg (by omega),if_pos h1,if_pos h1]; rfl
  ·by_cases h2 : b.toNat < a.toNat
   ·rw [if_pos h2,if_neg h1,if_pos h2]
   ·rw [if_neg h2,if_neg h1,if_neg h1,if_neg h2]
theorem PZ : ∀ l m k : List UInt8,Lib.compareBytes l m < 0 → Lib.compareBytes m k < 0 → Lib.compareBytes l k < 0
 | l,m,[],_,h=>by cases m <;> simp [Lib.compareBytes] at h
 | [],m,c :: k,_,_=>by simp [Lib.compareBytes]
 | a :: l,[],c :: k,h,_=>by simp [Lib.compareBytes] at h
 | a :: l,b :: m,c :: k,h1,h2=>by
  rw [Lib.compareBytes] at h1 h2 ⊢
  simp only [UInt8.lt_iff_toNat_lt] at h1 h2 ⊢
  by_cases g1 : a.toNat < b.toNat
  ·by_cases g2 : c.toNat < b.toNat
   ·rw [if_neg (by omega),if_pos g2] at h2; cases h2
   ·rw [if_pos (by omega)]; decide
  ·by_cases g1' : b.toNat < a.toNat
   ·rw [if_neg g1,if_pos g1'] at h1; cases h1
   ·rw [if_neg g1,if_neg g1'] at h1
    by_cases g2 : b.toNat < c.toNat
    ·rw [if_pos (by omega)]; decide
    ·by_cases g3 : c.toNat < b.toNat
     ·rw [if_neg g2,if_pos g3] at h2; cases h2
     ·rw [if_neg g2,if_neg g3] at h2
      rw [if_neg (by omega),if_neg (by omega)]
      exact PZ l m k h1 h2
def cB (s t : ByteArray) : Int:=Lib.compareBytes s.data.toList t.data.toList
theorem Ud (s : ByteArray) : cB s s = 0:=TP _
theorem JJ {s t : ByteArray} (h : cB s t = 0) : s = t:=by
 have:=TQ _ _ h
 cases s; cases t
 simpa using this
theorem cB_rng (s t : ByteArray) : cB s t = -1 ∨ cB s t = 0 ∨ cB s t = 1:=XO _ _
theorem JK (s t : ByteArray) : cB t s = - cB s t:=TR _ _
theorem BF {s t u : ByteArray} (h1 : cB s t < 0) (h2 : cB t u < 0) : cB s u < 0:=PZ _ _ _ h1 h2
theorem GS : ∀ l m : List UInt8,Op.bytesLess l m = decide (Lib.compareBytes l m < 0)
 | [],[]=>rfl
 | [],_ :: _=>rfl
 | _ :: _,[]=>rfl
 | a :: l,b :: m=>by
  rw [Op.bytesLess,Lib.compareBytes]
  simp only [UInt8.lt_iff_toNat_lt]
  by_cases h1 : a.toNat < b.toNat
  ·simp [h1]
  ·by_cases h2 : b.toNat < a.toNat
   ·have : a ≠ b:=by rintro rfl; omega
    simp [h1,h2,this]
   ·have : a = b:=UInt8.toNat_inj.1 (by omega)
    simp [this,GS l m]
theorem QA (s t : ByteArray) : CD s t = decide (cB s t < 0):=by
 unfold CD cB
 rw [GS,ByteArray.toList_eq,ByteArray.toList_eq]
end Go.Proofs.YtjofndbcioknfaaGreatDoor
/- Deeds: the program's check is the reference's,for a deed and for a list of deeds. No program stands here but its twins. -/
namespace Go.Proofs.YtjofndbcioknfaaGreatDoor
open Go
structure DG (d : Eg) : Prop where
 no : 1 ≤ d.No ∧ d.No ≤ 1000000
 at_ : 0 ≤ d.At ∧ d.At < 345686400000
 kind : d.Kind = 1 ∨ d.Kind = 2 ∨ d.Kind = 3 ∨ d.Kind = 4
 site : Gy d.Site = some true
 who : d.Kind ≠ 4 → Gy d.Who = some true ∧ Gy d.Race = some true
 club : d.Kind = 1 → d.Club = An ∨ Gy d.Club = some true
 time : d.Kind = 1 ∨ d.Kind = 3 → 0 ≤ d.Time ∧ d.Time ≤ 360000
 fault : d.Kind = 3 → 0 ≤ d.Fault ∧ d.Fault ≤ 8
 of_ : d.Kind = 4 → Gy d.Of = some true ∧ 1 ≤ d.Other ∧ d.Other ≤ 1000000
 form : d = if d.Kind = 1 then Eg.mk d.Site d.No d.At d.Kind d.Who d.Club d.Race d.Time 0 An 0 else
  if d.Kind = 3 then Eg.mk d.Site d.No d.At d.Kind d.Who An d.Race d.Time d.Fault An 0 else
  if d.Kind = 4 then Eg.mk d.Site d.No d.At d.Kind An An An 0 0 d.Of d.Other else Eg.mk d.Site d.No d.At d.Kind d.Who An d.Race 0 0 An 0
theorem inW {n l h : Int} : El n l h = true ↔ l ≤ n ∧ n ≤ h:=by unfold El; simp
theorem VP (d : Eg) : ∃ e,Rs d = some e ∧ Rr d = some e ∧ (e = 0 → DG d):=by
 obtain ⟨kS,s1,s2⟩:=Xw d.Site
 obtain ⟨kW,w1,w2⟩:=Xw d.Who
 obtain ⟨kR,r1,r2⟩:=Xw d.Race
 obtain ⟨kC,c1,c2⟩:=Xw d.Club
 obtain ⟨kO,o1,o2⟩:=Xw d.Of
 have hw : Ln = El:=rfl
 have hm : Qv d.At = Ji d.At:=by
  unfold Qv Ln Ji
  congr 1
  exact decide_eq_decide.2 (by omega)
 unfold Rs Rr
 simp only [s1,s2,w1,w2,r1,r2,c1,c2,o1,o2,hw,hm,Lf,Option.bind_some]
 cases kS with
 | false=>exact ⟨5,by simp,by simp,fun h=>by cases h⟩
 | true =>
  simp only [Bool.not_true,Bool.false_eq_true,if_false]
  by_cases hA : (!El d.No 1 1000000 || !Ji d.At) = true
  ·rw [if_pos hA,if_pos hA]; exact ⟨1,rfl,rfl,fun h=>by cases h⟩
  ·rw [if_neg hA,if_neg hA]
   simp only [Bool.or_eq_true,not_or,Bool.not_eq_true,Bool.not_eq_false'] at hA
   have hno:=inW.1 hA.1
   have hat : 0 ≤ d.At ∧ d.At < 345686400000:=by have:=hA.2; unfold Ji at this; simpa using this
   by_cases hK : (!El d.Kind 1 4) = true
   ·rw [if_pos hK,if_pos hK]; exact ⟨4,rfl,rfl,fun h=>by cases h⟩
   ·rw [if_neg hK,if_neg hK]
    have hk4 : d.Kind = 1 ∨ d.Kind = 2 ∨ d.Kind = 3 ∨ d.Kind = 4:=by
     have:=inW.1 (by simpa using hK : El d.Kind 1 4 = true)
     omega
    rcases hk4 with hk | hk | hk | hk
    ·simp only [hk,show decide ((1 : Int) = 1) = true from rfl,show decide ((1 : Int) = 3) = false from rfl,show decide ((1 : Int) = 4) = false from rfl]
     cases kW <;> cases kR <;> cases kC <;> cases hc : decide (d.Club = An) <;> cases ht : El d.Time 0 360000 <;> cases hf : decide (d = Eg.mk d.Site d.No d.At 1 d.Who d.Club d.Race d.Time 0 An 0) <;> (try simp only [decide_true,decide_false,Bool.not_true,Bool.not_false,Bool.true_and,Bool.false_and,Bool.and_true,Bool.and_false,Bool.or_false,Bool.false_or,Bool.true_or,Bool.or_true,Bool.and_self,Bool.or_self,if_true,Bool.false_eq_true,if_false]) <;>
      first | exact ⟨5,rfl,rfl,fun h=>by cases h⟩ | exact ⟨1,rfl,rfl,fun h=>by cases h⟩ | exact ⟨3,rfl,rfl,fun h=>by cases h⟩ |
       exact ⟨0,rfl,rfl,fun _=>⟨hno,hat,by omega,s1,fun _=>⟨w1,r1⟩,fun _=>by first | exact .inl (of_decide_eq_true hc) | exact .inr c1,fun _=>inW.1 ht,fun h=>by omega,fun h=>by omega,by rw [if_pos hk,hk]; exact of_decide_eq_true hf⟩⟩
    ·simp only [hk,show decide ((2 : Int) = 1) = false from rfl,show decide ((2 : Int) = 3) = false from rfl,show decide ((2 : Int) = 4) = false from rfl]
     cases kW <;> cases kR <;> cases hf : decide (d = Eg.mk d.Site d.No d.At 2 d.Who An d.Race 0 0 An 0) <;> (try simp only [decide_true,decide_false,Bool.not_true,Bool.not_false,Bool.true_and,Bool.false_and,Bool.and_true,Bool.and_false,Bool.or_false,Bool.false_or,Bool.true_or,Bool.or_true,Bool.and_self,Bool.or_self,if_true,Bool.false_eq_true,if_false]) <;>
      first | exact ⟨5,rfl,rfl,fun h=>by cases h⟩ | exact ⟨1,rfl,rfl,fun h=>by cases h⟩ | exact ⟨3,rfl,rfl,fun h=>by cases h⟩ |
       exact ⟨0,rfl,rfl,fun _=>⟨hno,hat,by omega,s1,fun _=>⟨w1,r1⟩,fun h=>by omega,fun h=>by omega,fun h=>by omega,fun h=>by omega,by rw [if_neg (by omega),if_neg (by omega),if_neg (by omega),hk]; exact of_decide_eq_true hf⟩⟩
    ·simp only [hk,show decide ((3 : Int) = 1) = false from rfl,show decide ((3 : Int) = 3) = true from rfl,show decide ((3 : Int) = 4) = false from rfl]
     cases kW <;> cases kR <;> cases ht : El d.Time 0 360000 <;> cases hu : El d.Fault 0 8 <;> cases hf : decide (d = Eg.mk d.Site d.No d.At 3 d.Who An d.Race d.Time d.Fault An 0) <;> (try simp only [decide_true,decide_false,Bool.not_true,Bool.not_false,Bool.true_and,Bool.false_and,Bool.and_true,Bool.and_false,Bool.or_false,Bool.false_or,Bool.true_or,Bool.or_true,Bool.and_self,Bool.or_self,if_true,Bool.false_eq_true,if_false]) <;>
      first | exact ⟨5,rfl,rfl,fun h=>by cases h⟩ | exact ⟨1,rfl,rfl,fun h=>by cases h⟩ | exact ⟨3,rfl,rfl,fun h=>by cases h⟩ |
       exact ⟨0,rfl,rfl,fun _=>⟨hno,hat,by omega,s1,fun _=>⟨w1,r1⟩,fun h=>by omega,fun _=>inW.1 ht,fun _=>inW.1 hu,fun h=>by omega,by rw [if_neg (by omega),if_pos hk,hk]; exact of_decide_eq_true hf⟩⟩
    ·simp only [hk,show decide ((4 : Int) = 1) = false from rfl,show decide ((4 : Int) = 3) = false from rfl,show decide ((4 : Int) = 4) = true from rfl]
     cases kO <;> cases ho : El d.Other 1 1000000 <;> cases hf : decide (d = Eg.mk d.Site d.No d.At 4 An An An 0 0 d.Of d.Other) <;> (try simp only [decide_true,decide_false,Bool.not_true,Bool.not_false,Bool.true_and,Bool.false_and,Bool.and_true,Bool.and_false,Bool.or_false,Bool.false_or,Bool.true_or,Bool.or_true,Bool.and_self,Bool.or_self,if_true,Bool.false_eq_true,if_false]) <;>
      first | exact ⟨5,rfl,rfl,fun h=>by cases h⟩ | exact ⟨1,rfl,rfl,fun h=>by cases h⟩ | exact ⟨3,rfl,rfl,fun h=>by cases h⟩ |
       exact ⟨0,rfl,rfl,fun _=>⟨hno,hat,by omega,s1,fun h=>absurd hk h,fun h=>by omega,fun h=>by omega,fun h=>by omega,fun _=>⟨o1,inW.1 ho⟩,by rw [if_neg (by omega),if_neg (by omega),if_pos hk,hk]; exact of_decide_eq_true hf⟩⟩
theorem KK (y : Eg) : ∀ (l : List Eg) (i : Nat),decide (0 ≤ Fu y (-1) l i) = decide (Gc y ∈ l.map Gc)
 | [],i=>by simp [Fu]
 | z :: l,i=>by
  have ih:=KK y l (i + 1)
  rw [Fu]
  have hp : Pt z y = decide (Gc y = Gc z):=by
   unfold Pt Wz Gc
   rw [Bool.eq_iff_iff]
   simp only [Bool.and_eq_true,decide_eq_true_eq,Fm.mk.injEq]
   exact ⟨fun h=>⟨h.1.symm,h.2.symm⟩,fun h=>⟨h.1.symm,h.2.symm⟩⟩
  rw [hp]
  by_cases h : Gc y = Gc z
  ·rw [if_pos (decide_eq_true h),decide_eq_true (show 0 ≤ (i : Int) by omega),decide_eq_true (by simp [h])]
  ·rw [if_neg (by simpa using h),ih]
   exact decide_eq_decide.2 (by simp [h])
theorem MR (l : List Eg) : ∀ (ys dn : List Eg),l = dn ++ ys → (dn.map Gc).Nodup → Jv l (some 0) ys dn.length = some (if (l.map Gc).Nodup then 0 else 6)
 | [],dn,h,hd=>by
  rw [List.append_nil] at h
  subst h
  rw [if_pos hd]; rfl
 | y :: ys,dn,h,hd=>by
  have hlen : l.length = dn.length + (ys.length + 1):=by rw [h]; simp
  rw [Jv,Gi (Vc.2 (by omega))]
  have hc : cut l 0 (dn.length : Int) = dn:=by unfold cut; rw [h]; simp
  have hq : Kc dn y = decide (Gc y ∈ dn.map Gc):=KK y dn 0
  rw [hc,hq]
  by_cases hm : Gc y ∈ dn.map Gc
  ·rw [if_pos (decide_eq_true hm),if_neg]
   intro hn
   rw [h,List.map_append,List.nodup_append] at hn
   exact hn.2.2 _ hm _ (by simp) rfl
  ·rw [if_neg (by simpa using hm)]
   have ih:=MR l ys (dn ++ [y]) (by rw [h]; simp) (by
    rw [List.map_append,List.nodup_append]
    refine ⟨hd,by simp,?_⟩
    intro a ha b hb
    simp only [List.map_cons,List.map_nil,List.mem_singleton] at hb
    subst hb
    exact fun e=>hm (e ▸ ha))
   rwa [List.length_append] at ih
theorem cmpID (x y : Int) : Hx x y = if x < y then -1 else if y < x then 1 else 0:=by
 unfold Hx Rj
 simp
theorem orD3 (a b c : Int) : Rt [a,b,c] = if a ≠ 0 then a else if b ≠ 0 then b else c:=by
 unfold Rt
 simp only [Lf,Mt]
 by_cases h1 : a = 0
 ·by_cases h2 : b = 0
  ·by_cases h3 : c = 0 <;> simp [h1,h2,h3]
  ·simp [h1,h2]
 ·simp [h1]
theorem QB (p q : Eg) : Og p q = if p.At < q.At then -1 else if q.At < p.At then 1 else if cB p.Site q.Site ≠ 0 then cB p.Site q.Site else if p.No < q.No then -1 else if q.No < p.No then 1 else 0:=by
 unfold Og
 rw [orD3,cmpID,cmpID]
 have hc : Ho p.Site q.Site = cB p.Site q.Site:=rfl
 rw [hc]
 by_cases h1 : p.At < q.At
 ·simp [h1]
 ·by_cases h2 : q.At < p.At
  ·simp [h1,h2]
  ·simp [h1,h2]
theorem orderD (p q : Eg) (hp : DG p) (hq : DG q) : Ko p q = Og p q:=by
 rw [QB]
 have a1:=hp.no
 have a2:=hp.at_
 have b1:=hq.no
 have b2:=hq.at_
 unfold Ko Wo
 have hc : Ho p.Site q.Site = cB p.Site q.Site:=rfl
 have hW1 : W (p.At - q.At) = p.At - q.At:=Pa (by omega) (by omega)
 have hW2 : W (p.No - q.No) = p.No - q.No:=Pa (by omega) (by omega)
 rw [hc,hW1,hW2]
 simp only [decide_eq_true_eq,Bool.not_eq_true',decide_eq_false_iff_not]
 by_cases h1 : p.At = q.At
 ·rw [if_neg (fun h=>h h1),if_neg (show ¬ p.At < q.At by omega),if_neg (show ¬ q.At < p.At by omega)]
  by_cases h2 : p.Site = q.Site
  ·simp only [h2,Ud,not_true_eq_false,if_false,ne_eq]
   split <;> split <;> (try split) <;> (try split) <;> omega
  ·rw [if_pos h2,if_pos (fun e=>h2 (JJ e))]
 ·rw [if_pos h1]
  split <;> split <;> (try split) <;> (try split) <;> omega
abbrev RU (l : List Eg) : Prop:=∀ d x y r,l = d ++ x :: y :: r → Og x y < 0
theorem XP (l : List Eg) (hl : l.length ≤ 1000000) (j : List (Fm × Bool) → Bool → Option Int) (j' : Option Int) : ∀ (ys dn : List Eg) (m : List (Fm × Bool)) (t : Bool),l = dn ++ ys → (∀ x ∈ dn,DG x) →
  (∀ e,Et m e false = decide (e ∈ dn.map Gc)) → t = decide (¬ (dn.map Gc).Nodup) → (∀ d x y r,dn = d ++ x :: y :: r → Og x y < 0) →
  (∃ e,e ≠ 0 ∧ Jj l j ys dn.length m t = some e ∧ Jf l j' ys dn.length = some e) ∨
  (∃ m',Jj l j ys dn.length m t = j m' (decide (¬ (l.map Gc).Nodup)) ∧ Jf l j' ys dn.length = j' ∧ (∀ x ∈ l,DG x) ∧ RU l)
 | [],dn,m,t,h,hg,hm,ht,ha=>by
  rw [List.append_nil] at h
  subst h
  exact .inr ⟨m,by rw [Jj,ht],rfl,hg,ha⟩
 | y :: ys,dn,m,t,h,hg,hm,ht,ha=>by
  have hlen : l.length = dn.length + (ys.length + 1):=by rw [h]; simp
  obtain ⟨e,e1,e2,e3⟩:=VP y
  rw [Jj,Jf,e1,e2]
  simp only [Option.bind_some,Lf]
  by_cases he : e = 0
  ·subst he
   have hy:=e3 rfl
   simp only [decide_true,Bool.not_true,Bool.false_eq_true,if_false]
   have go : (∀ d x,dn = d ++ [x] → Og x y < 0) →
     (∃ e,e ≠ 0 ∧ Jj l j ys (dn.length + 1) (Hj m (Gc y) true) (t || Et m (Gc y) false) = some e ∧ Jf l j' ys (dn.length + 1) = some e) ∨
     (∃ m',Jj l j ys (dn.length + 1) (Hj m (Gc y) true) (t || Et m (Gc y) false) = j m' (decide (¬ (l.map Gc).Nodup)) ∧ Jf l j' ys (dn.length + 1) = j' ∧ (∀ x ∈ l,DG x) ∧ RU l):=fun hadj=>by
    have:=XP l hl j j' ys (dn ++ [y]) (Hj m (Gc y) true) (t || Et m (Gc y) false) (by rw [h]; simp) (fun x hx=>by
     rcases List.mem_append.1 hx with hx | hx
     ·exact hg x hx
     ·obtain rfl:=List.mem_singleton.1 hx; exact hy) (fun e=>by
     rw [Yl,hm e]
     by_cases h1 : e = Gc y
     ·rw [if_pos h1]; exact (decide_eq_true (by simp [h1])).symm
     ·rw [if_neg h1]; exact decide_eq_decide.2 (by simp [h1])) (by
     rw [ht,hm,Bool.eq_iff_iff]
     simp only [Bool.or_eq_true,decide_eq_true_eq,List.map_append,List.map_cons,List.map_nil,List.nodup_append]
     constructor
     ·rintro (h1 | h1) h2
      ·exact h1 h2.1
      ·exact h2.2.2 _ h1 _ (by simp) rfl
     ·intro h1
      by_cases h2 : (dn.map Gc).Nodup
      ·refine .inr (Classical.byContradiction fun h3=>h1 ⟨h2,by simp,fun a ha b hb=>?_⟩)
       obtain rfl:=List.mem_singleton.1 hb
       exact fun e=>h3 (e ▸ ha)
      ·exact .inl h2) (fun d x z r hd=>by
     rcases List.eq_nil_or_concat r with rfl | ⟨r',b,rfl⟩
     ·have h1 : dn ++ [y] = (d ++ [x]) ++ [z]:=by rw [hd]; simp
      obtain ⟨h2,h3⟩:=List.append_inj' h1 rfl
      obtain rfl:=(List.cons.inj h3).1
      exact hadj d x h2
     ·have h1 : dn ++ [y] = (d ++ x :: z :: r') ++ [b]:=by rw [hd]; simp
      exact ha d x z r' (List.append_inj' h1 rfl).1)
    rwa [List.length_append,List.length_singleton] at this
   by_cases h0 : (0 : Int) < (dn.length : Int)
   ·obtain ⟨d,x,hdx⟩ : ∃ d x,dn = d ++ [x]:=by
     rcases List.eq_nil_or_concat dn with h1 | ⟨d,x,h1⟩
     ·rw [h1] at h0; simp at h0
     ·exact ⟨d,x,by rw [h1]; simp⟩
    have hdl : dn.length = d.length + 1:=by rw [hdx]; simp
    have hw : W ((dn.length : Int) - 1) = (d.length : Int):=by rw [Pa (by omega) (by omega)]; omega
    have hn : nth l (d.length : Int) = x:=by rw [h,hdx]; unfold nth; simp
    have hx:=hg x (by rw [hdx]; simp)
    simp only [h0,decide_true,if_true,hw,Gi (show inB (d.length : Int) l.length = true from Kb.2 (by omega)),hn,orderD x y hx hy]
    by_cases hc : 0 ≤ Og x y
    ·rw [if_pos (decide_eq_true hc),if_pos (decide_eq_true hc)]
     exact .inl ⟨7,by decide,rfl,rfl⟩
    ·rw [if_neg (by simpa using hc),if_neg (by simpa using hc)]
     refine go fun d' x' h'=>?_
     rw [hdx] at h'
     obtain ⟨_,h3⟩:=List.append_inj' h' rfl
     obtain rfl:=(List.cons.inj h3).1
     omega
   ·simp only [h0,decide_false,Bool.false_eq_true,if_false]
    refine go fun d' x' h'=>?_
    rw [h'] at h0
    simp at h0
  ·rw [if_pos (by simpa using he),if_pos (by simpa using he)]
   exact .inl ⟨e,he,rfl,rfl⟩
structure DsG (l : List Eg) : Prop where
 len : l.length ≤ 2000
 each : ∀ x ∈ l,DG x
 adj : RU l
 nodup : (l.map Gc).Nodup
theorem RV (l : List Eg) : ∃ e,Qw l = some e ∧ Rb l = some e ∧ (e = 0 → DsG l):=by
 unfold Qw Rb
 by_cases h : 2000 < (l.length : Int)
 ·rw [if_pos (decide_eq_true h),if_pos (decide_eq_true h)]; exact ⟨2,rfl,rfl,fun h=>by cases h⟩
 ·rw [if_neg (by simpa using h),if_neg (by simpa using h)]
  simp only [Lf]
  have h2:=MR l l [] rfl List.nodup_nil
  rcases XP l (by omega) (fun x1 x2=>if x2 then some 6 else some 0) (Jv l (some 0) l 0) l [] [] false rfl (by simp) (fun e=>by simp [Et,Ut,Oi]) (by simp) (by simp) with ⟨e,he,q1,q2⟩ | ⟨m',q1,q2,q3,q4⟩
  ·exact ⟨e,q1,q2,fun h=>absurd h he⟩
  ·rw [show ([] : List Eg).length = 0 from rfl] at q1 q2 h2
   rw [q1,q2,h2]
   by_cases hn : (l.map Gc).Nodup
   ·exact ⟨0,by simp [hn],by simp [hn],fun _=>⟨by omega,q3,q4,hn⟩⟩
   ·exact ⟨6,by simp [hn],by simp [hn],fun h=>by cases h⟩
end Go.Proofs.YtjofndbcioknfaaGreatDoor
/- Sorting,striking and thinning out,to the element. No program stands here. -/
namespace Go.Proofs.YtjofndbcioknfaaGreatDoor
open Go
section
variable {α : Type}
theorem MS {lt : α → α → Bool} (ht : ∀ x y z,lt x y = true → lt y z = true → lt x z = true) (x : α) : ∀ rp : List α,rp.Pairwise (fun a b=>lt b a = true) → (∀ y ∈ rp,lt x y = false → lt y x = true) → (Vt lt x rp).Pairwise fun a b=>lt b a = true
 | [],_,_=>by simp [Vt]
 | y :: r,h,hx=>by
  rw [List.pairwise_cons] at h
  unfold Vt
  cases hxy : lt x y with
  | true =>
   rw [if_pos rfl]
   refine List.pairwise_cons.2 ⟨fun z hz=>?_,MS ht x r h.2 fun z hz=>hx z (List.mem_cons_of_mem _ hz)⟩
   rcases (BE lt x z r).1 hz with rfl | hz
   ·exact hxy
   ·exact h.1 z hz
  | false =>
   rw [if_neg (by simp)]
   have h1:=hx y (by simp) hxy
   refine List.pairwise_cons.2 ⟨fun z hz=>?_,List.pairwise_cons.2 h⟩
   rcases List.mem_cons.1 hz with rfl | hz
   ·exact h1
   ·exact ht z y x (h.1 z hz) h1
theorem KL {lt : α → α → Bool} (ht : ∀ x y z,lt x y = true → lt y z = true → lt x z = true) : ∀ l rp : List α,rp.Pairwise (fun a b=>lt b a = true) → (∀ x ∈ l,∀ y ∈ rp,lt x y = false → lt y x = true) → l.Pairwise (fun a b=>lt b a = false → lt a b = true) →
  (Xf lt l rp).Pairwise fun a b=>lt b a = true
 | [],rp,h,_,_=>h
 | x :: l,rp,h,h1,h2=>by
  rw [List.pairwise_cons] at h2
  show (Xf lt l (Vt lt x rp)).Pairwise _
  refine KL ht l _ (MS ht x rp h (h1 x (by simp))) (fun z hz y hy=>?_) h2.2
  rcases (BE lt x y rp).1 hy with rfl | hy
  ·exact h2.1 z hz
  ·exact h1 z (List.mem_cons_of_mem _ hz) y hy
theorem BG {lt : α → α → Bool} (ht : ∀ x y z,lt x y = true → lt y z = true → lt x z = true) (l : List α) (h : l.Pairwise fun a b=>lt b a = false → lt a b = true) : (Qd lt l).Pairwise fun a b=>lt a b = true:=by
 unfold Qd
 rw [List.pairwise_reverse]
 exact KL ht l [] List.Pairwise.nil (fun _ _ _ h=>by cases h) h
theorem Us (lt : α → α → Bool) (l : List α) (z : α) : z ∈ Qd lt l ↔ z ∈ l:=by
 unfold Qd
 rw [List.mem_reverse,MQ]
 simp
theorem TS {lt : α → α → Bool} (hi : ∀ x,lt x x = false) (ht : ∀ x y z,lt x y = true → lt y z = true → lt x z = true) : ∀ A B : List α,A.Pairwise (fun a b=>lt a b = true) → B.Pairwise (fun a b=>lt a b = true) → (∀ x,x ∈ A ↔ x ∈ B) → A = B
 | [],[],_,_,_=>rfl
 | [],b :: B,_,_,h=>by have:=(h b).2 (by simp); cases this
 | a :: A,[],_,_,h=>by have:=(h a).1 (by simp); cases this
 | a :: A,b :: B,hA,hB,h=>by
  rw [List.pairwise_cons] at hA hB
  have hab : a = b:=by
   rcases List.mem_cons.1 ((h a).1 (by simp)) with e | h1
   ·exact e
   ·rcases List.mem_cons.1 ((h b).2 (by simp)) with e | h2
    ·exact e.symm
    ·have:=ht a b a (hA.1 b h2) (hB.1 a h1)
     rw [hi] at this
     cases this
  subst hab
  have : A = B:=TS hi ht A B hA.2 hB.2 fun x=>by
   have hx:=h x
   constructor
   ·intro hm
    rcases List.mem_cons.1 (hx.1 (List.mem_cons_of_mem _ hm)) with rfl | h3
    ·have:=hA.1 x hm; rw [hi] at this; cases this
    ·exact h3
   ·intro hm
    rcases List.mem_cons.1 (hx.2 (List.mem_cons_of_mem _ hm)) with rfl | h3
    ·have:=hB.1 x hm; rw [hi] at this; cases this
    ·exact h3
  rw [this]
theorem KM (lt : α → α → Bool) : ∀ l rp : List α,(Xf lt l rp).length = l.length + rp.length
 | [],rp=>by simp [Xf]
 | x :: l,rp=>by
  show (Xf lt l (Vt lt x rp)).length = _
  rw [KM lt l,DU]
  simp only [List.length_cons]
  omega
theorem Yf (lt : α → α → Bool) (l : List α) : (Qd lt l).length = l.length:=by
 unfold Qd
 rw [List.length_reverse,KM]
 simp
theorem QC {lt : α → α → Bool} (hi : ∀ x,lt x x = false) (ht : ∀ x y z,lt x y = true → lt y z = true → lt x z = true) (A B : List α) (h : A.Pairwise fun a b=>lt b a = false → lt a b = true) (hB : B.Pairwise fun a b=>lt a b = true) (hm : ∀ x,x ∈ A ↔ x ∈ B) : Qd lt A = B :=
 TS hi ht _ _ (BG ht A h) hB fun x=>by rw [Us,hm]
theorem FP {lt lt' : α → α → Bool} (x : α) : ∀ rp : List α,(∀ y ∈ rp,lt x y = lt' x y) → Vt lt x rp = Vt lt' x rp
 | [],_=>rfl
 | y :: r,h=>by
  unfold Vt
  rw [h y (by simp),FP x r fun z hz=>h z (List.mem_cons_of_mem _ hz)]
theorem II {lt lt' : α → α → Bool} : ∀ l rp : List α,(∀ x ∈ l,∀ y,y ∈ l ∨ y ∈ rp → lt x y = lt' x y) → Xf lt l rp = Xf lt' l rp
 | [],_,_=>rfl
 | x :: l,rp,h=>by
  show Xf lt l (Vt lt x rp) = Xf lt' l (Vt lt' x rp)
  rw [FP x rp fun y hy=>h x (by simp) y (.inr hy)]
  refine II l _ fun z hz y hy=>h z (List.mem_cons_of_mem _ hz) y ?_
  rcases hy with hy | hy
  ·exact .inl (List.mem_cons_of_mem _ hy)
  ·rcases (BE lt' x y rp).1 hy with rfl | hy
   ·exact .inl (by simp)
   ·exact .inr hy
theorem IJ {lt lt' : α → α → Bool} (l : List α) (h : ∀ x ∈ l,∀ y ∈ l,lt x y = lt' x y) : Qd lt l = Qd lt' l:=by
 unfold Qd
 rw [II l [] fun x hx y hy=>h x hx y (by rcases hy with hy | hy; exact hy; cases hy)]
theorem MT (lt : α → α → Bool) (x : α) : ∀ rp : List α,(Vt lt x rp).Perm (x :: rp)
 | []=>List.Perm.refl _
 | y :: r=>by
  unfold Vt
  split
  ·exact ((MT lt x r).cons y).trans (List.Perm.swap x y r)
  ·exact List.Perm.refl _
theorem KN (lt : α → α → Bool) : ∀ l rp : List α,(Xf lt l rp).Perm (l ++ rp)
 | [],_=>List.Perm.refl _
 | x :: l,rp=>(KN lt l (Vt lt x rp)).trans (((MT lt x rp).append_left l).trans List.perm_middle)
theorem RW (lt : α → α → Bool) (l : List α) : (Qd lt l).Perm l:=by
 have h:=KN lt l []
 rw [List.append_nil] at h
 exact (List.reverse_perm _).trans h
def nbF [DecidableEq α] (p : α) : List α → List α
 | []=>[]
 | y :: r=>if y = p then nbF y r else y :: nbF y r
def nb [DecidableEq α] : List α → List α
 | []=>[]
 | x :: r=>x :: nbF x r
variable {R : Type} [Inhabited α]
end
end Go.Proofs.YtjofndbcioknfaaGreatDoor
/- The stream of choices goes on: each drawing gives something and moves the place by a little. Conditions: the place is not far. -/
namespace Go.Proofs.YtjofndbcioknfaaGreatDoor
open Go
def Dr {α : Type} (a k : Int) (Q : α → Prop) (o : Option (α × Int)) : Prop:=∃ v b,o = some (v,b) ∧ a ≤ b ∧ b ≤ a + k ∧ Q v
abbrev GT (L : List Int) : Prop:=(L.length : Int) ≤ 9223372036854775807
section
variable {L : List Int} (hL : GT L) {a : Int} (h0 : 0 ≤ a) (h1 : a ≤ 1000000000000)
include hL h0 h1
theorem next_dr (n : Int) (hn : n ≤ 4611686018427387904) : Dr a 1 (fun v=>0 ≤ v ∧ (v < n ∨ (n < 1 ∧ v = 0))) (Ri L a n):=by
 obtain ⟨v,e,g⟩:=EH L a n h0 (by omega) hL hn
 exact ⟨v,a + 1,e,by omega,by omega,g⟩
theorem Td (l : List Int) (hl : 0 < l.length) (hl' : l.length ≤ 1000) : Dr a 1 (fun v=>v ∈ l) (Kr L a l):=by
 obtain ⟨v,e,g⟩:=TM L a l h0 (by omega) hL hl hl'
 exact ⟨v,a + 1,e,by omega,by omega,g⟩
theorem TT (n : Int) (hn : n ≤ 4611686018427387904) : Dr a 1 (fun _=>True) (Ts L a n):=by
 obtain ⟨v,e⟩:=TN L a n h0 (by omega) hL hn
 exact ⟨v,a + 1,e,by omega,by omega,trivial⟩
theorem Zh (l : List ByteArray) (hl : 0 < l.length) (hl' : l.length ≤ 1000) : Dr a 1 (fun v=>v ∈ l) (Pd L a l):=by
 obtain ⟨v,e1,h1,h2⟩:=EH L a (l.length : Int) h0 (by omega) hL (by omega)
 have hc : inB v l.length = true:=Kb.2 ⟨h1,by omega⟩
 unfold Pd
 rw [e1]
 simp only [Option.bind_some]
 rw [Gi hc]
 exact ⟨nth l v,a + 1,rfl,by omega,by omega,List.mem_of_getElem? (Es hc).1⟩
theorem BH (low high : Int) (h2 : -1000000000000 ≤ low) (h3 : low ≤ 1000000000000) (h4 : high ≤ 1000000000000) : Dr a 1 (fun v=>low ≤ v ∧ (v ≤ high ∨ v = low)) (Ou L a low high):=by
 unfold Ou
 by_cases h : high < low
 ·exact ⟨low,a,by simp [h],by omega,by omega,by omega,.inr rfl⟩
 ·have w1 : W (high - low) = high - low:=Pa (by omega) (by omega)
  have w2 : W (high - low + 1) = high - low + 1:=Pa (by omega) (by omega)
  obtain ⟨v,e,g1,g2⟩:=EH L a (high - low + 1) h0 (by omega) hL (by omega)
  rw [if_neg (by simpa using h),w1,w2,e]
  have w3 : W (low + v) = low + v:=Pa (by omega) (by omega)
  exact ⟨_,_,rfl,by show a ≤ a + 1; omega,by show a + 1 ≤ a + 1; omega,by simp only [w3]; omega⟩
theorem KO (low high : Int) (h2 : -1000000000000 ≤ low) (h3 : low ≤ 1000000000000) (h4 : high ≤ 1000000000000) : Dr a 2 (fun _=>True) (Tv L a low high):=by
 obtain ⟨b,e1⟩:=TN L a 12 h0 (by omega) hL (by omega)
 unfold Tv
 rw [e1]
 simp only [Option.bind_some]
 cases b with
 | true =>
  obtain ⟨v,e,_⟩:=TM L (a + 1) [W (low - 1),W (high + 1),low,high,(-1099511627776),1099511627776] (by omega) (by omega) hL (by simp) (by simp)
  rw [if_pos rfl,e]
  exact ⟨_,_,rfl,by show a ≤ a + 1 + 1; omega,by show a + 1 + 1 ≤ a + 2; omega,trivial⟩
 | false =>
  unfold Ou
  by_cases h : high < low
  ·rw [if_neg (by simp),if_pos (by simpa using h)]
   exact ⟨_,_,rfl,by show a ≤ a + 1; omega,by show a + 1 ≤ a + 2; omega,trivial⟩
  ·have w1 : W (high - low) = high - low:=Pa (by omega) (by omega)
   have w2 : W (high - low + 1) = high - low + 1:=Pa (by omega) (by omega)
   obtain ⟨v,e,g1,g2⟩:=EH L (a + 1) (high - low + 1) (by omega) (by omega) hL (by omega)
   rw [if_neg (by simp),if_neg (by simpa using h),w1,w2,e]
   exact ⟨_,_,rfl,by show a ≤ a + 1 + 1; omega,by show a + 1 + 1 ≤ a + 2; omega,trivial⟩
end
end Go.Proofs.YtjofndbcioknfaaGreatDoor
/- Deeds that are sorted and merged. No program stands here but its twins. -/
namespace Go.Proofs.YtjofndbcioknfaaGreatDoor
open Go
def ltD (x y : Eg) : Bool:=decide (Og x y < 0)
theorem len_d : ∀ n : Fin 13,(CW (IntKind.wrap .u64 (n.val : Int))).isSome = true:=by decide +kernel
def ltR (x y : Eg) : Bool:=decide (Ko x y < 0)
theorem RX (l : List Eg) (hl : l.length ≤ 19) : Iu l = some (Qd ltR l):=by
 have hs : Ic l 0 (l.length : Int) = some (Qd ltR l):=by
  unfold Ic
  simp only [Oj]
  have hins : ∀ (k : List Eg → Option (List Eg)) (rp : List Eg) (x : Eg) (post : List Eg),((rp ++ x :: post).length : Int) = (l.length : Int) → (∀ y,y ∈ rp ∨ y = x ∨ y ∈ post → y ∈ (rp ++ x :: post)) →
    Fh 0 k (((rp.length : Int) - 0).toNat + 2) (rp.reverse ++ x :: post) (rp.length : Int) = k ((Vt ltR x rp).reverse ++ post):=by
   intro k rp x post h1 _
   exact MP (fun x y k=>k (ltR x y)) ltR k (Fh 0 k) (fun _ _ _=>rfl) rp x post _ (by omega) (by simp at h1; omega) fun y _ k'=>rfl
  cases l with
  | nil=>rfl
  | cons x l =>
   have hw : W (0 + 1) = (([x] : List Eg).length : Int):=rfl
   rw [hw]
   exact EI ltR (fun x=>some x) (fun k x i=>Fh 0 k ((i - 0).toNat + 2) x i) (Fy ((x :: l).length : Int) 0 fun x=>some x) ((x :: l).length : Int) (fun _ _ _=>rfl)
    (fun k rp x post h1 h2=>hins k rp x post h1 h2) l [x] _ (by simp only [List.length_cons,List.length_nil]; omega) (by simp only [List.length_cons,List.length_nil]; omega) (by simp only [List.length_cons,List.length_nil] at hl ⊢; omega)
 unfold Iu Kj
 simp only [Oj]
 rw [Gp,if_neg (by simp; omega),hs]
 simp only [Option.bind_some]
 rw [Gq,if_neg (by simp; omega)]
 rfl
theorem ltD_iff (p q : Eg) : ltD p q = true ↔ p.At < q.At ∨ (p.At = q.At ∧ (cB p.Site q.Site < 0 ∨ (p.Site = q.Site ∧ p.No < q.No))):=by
 unfold ltD
 rw [decide_eq_true_eq,QB]
 rcases cB_rng p.Site q.Site with h | h | h
 ·have hne : p.Site ≠ q.Site:=fun e=>by rw [e,Ud] at h; omega
  simp only [h,hne,false_and,or_false]
  split <;> (try split) <;> (try split) <;> omega
 ·have he : p.Site = q.Site:=JJ h
  simp only [he,Ud,true_and,ne_eq,not_true_eq_false,if_false,Int.lt_irrefl,false_or]
  split <;> (try split) <;> (try split) <;> (try split) <;> omega
 ·have hne : p.Site ≠ q.Site:=fun e=>by rw [e,Ud] at h; omega
  simp only [h,hne,false_and,or_false]
  split <;> (try split) <;> (try split) <;> omega
theorem VQ (p q r : Eg) (h1 : ltD p q = true) (h2 : ltD q r = true) : ltD p r = true:=by
 rw [ltD_iff] at *
 rcases h1 with h1 | ⟨a1,h1⟩ <;> rcases h2 with h2 | ⟨a2,h2⟩
 ·exact .inl (by omega)
 ·exact .inl (by omega)
 ·exact .inl (by omega)
 ·refine .inr ⟨by omega,?_⟩
  rcases h1 with h1 | ⟨b1,h1⟩ <;> rcases h2 with h2 | ⟨b2,h2⟩
  ·exact .inl (BF h1 h2)
  ·exact .inl (by rw [← b2]; exact h1)
  ·exact .inl (by rw [b1]; exact h2)
  ·exact .inr ⟨b1.trans b2,by omega⟩
theorem RU.up : ∀ {l : List Eg},RU l → l.Pairwise fun a b=>ltD a b = true
 | [],_=>List.Pairwise.nil
 | [x],_=>List.pairwise_singleton _ _
 | x :: y :: l,h=>by
  have h1:=RU.up (l:=y :: l) (fun d p q r e=>h (x :: d) p q r (by rw [e]; rfl))
  have h2 : ltD x y = true:=decide_eq_true (h [] x y l rfl)
  refine List.pairwise_cons.2 ⟨fun z hz=>?_,h1⟩
  rcases List.mem_cons.1 hz with rfl | hz
  ·exact h2
  ·exact VQ _ _ _ h2 ((List.pairwise_cons.1 h1).1 z hz)
theorem up_DAdj {l : List Eg} (h : l.Pairwise fun a b=>ltD a b = true) : RU l:=by
 intro d x y r e
 subst e
 have h1:=(List.pairwise_append.1 h).2.1
 exact of_decide_eq_true ((List.pairwise_cons.1 h1).1 y List.mem_cons_self)
end Go.Proofs.YtjofndbcioknfaaGreatDoor
/- Ranks of right times: judge.Rank. Conditions: few swimmers,in the order of their keys. No program stands here but its twins. -/
namespace Go.Proofs.YtjofndbcioknfaaGreatDoor
open Go
theorem TU (j : List (ByteArray × Bool) → Bool → Option Int) : ∀ (ys : List Kq) (i : Nat) (m : List (ByteArray × Bool)),(∀ s ∈ ys,Gy s.Who = some true ∧ 0 ≤ s.Time ∧ s.Time ≤ 360000) → (ys.map (·.Who)).Nodup → (∀ s ∈ ys,Et m s.Who false = false) →
  ∃ m',Mb j ys i m false = j m' false
 | [],i,m,_,_,_=>⟨m,rfl⟩
 | y :: ys,i,m,h1,h2,h3=>by
  obtain ⟨k,t0,t1⟩:=h1 y List.mem_cons_self
  simp only [List.map_cons,List.nodup_cons] at h2
  rw [Mb,k]
  simp only [Option.bind_some,Bool.not_true,Bool.false_eq_true,if_false]
  rw [if_neg (by unfold El; simp; omega),h3 y List.mem_cons_self,Bool.or_false]
  exact TU j ys (i + 1) _ (fun s hs=>h1 s (List.mem_cons_of_mem _ hs)) h2.2 (fun s hs=>by
   rw [Yl,if_neg (fun e=>h2.1 (by rw [← e]; exact List.mem_map_of_mem hs))]
   exact h3 s (List.mem_cons_of_mem _ hs))
theorem XQ {l : List Kq} (hl : l.length ≤ 300) (h1 : ∀ s ∈ l,Gy s.Who = some true ∧ 0 ≤ s.Time ∧ s.Time ≤ 360000) (h2 : (l.map (·.Who)).Nodup) : Uj l = some 0:=by
 unfold Uj
 rw [if_neg (by simp; omega),Oj]
 obtain ⟨m,e⟩:=TU (fun x1 x2=>if x2 then some 6 else some 0) l 0 [] h1 h2 (fun _ _=>rfl)
 rw [e]
 rfl
theorem behindW {s t : ByteArray} (h : cB s t < 0) : (CD t s || decide (t = s)) = false:=by
 rw [QA,Bool.or_eq_false_iff]
 have hf:=JK s t
 refine ⟨decide_eq_false (by omega),decide_eq_false fun e=>?_⟩
 rw [e,Ud] at h
 omega
theorem KP (l : List Jm) (hl : l.length ≤ 300) (j : Option Int) (h1 : ∀ s ∈ l,Gy s.Who = some true ∧ 0 ≤ s.Fault ∧ s.Fault ≤ 8) (h2 : l.Pairwise fun a b=>cB a.Who b.Who < 0) : ∀ (ys dn : List Jm),l = dn ++ ys → Ke l j ys dn.length = j
 | [],_,_=>rfl
 | y :: ys,dn,he=>by
  obtain ⟨k,t0,t1⟩:=h1 y (by rw [he]; simp)
  have ih:=KP l hl j h1 h2 ys (dn ++ [y]) (by rw [he]; simp)
  rw [List.length_append,List.length_singleton] at ih
  rw [Ke,k]
  simp only [Option.bind_some,Bool.not_true,Bool.false_eq_true,if_false,Oj]
  rw [if_neg (by unfold El; simp; omega)]
  have hlen : l.length = dn.length + (ys.length + 1):=by rw [he]; simp
  by_cases h0 : (0 : Int) < (dn.length : Int)
  ·obtain ⟨d,x,hdx⟩ : ∃ d x,dn = d ++ [x]:=by
    rcases List.eq_nil_or_concat dn with h1 | ⟨d,x,h1⟩
    ·rw [h1] at h0; simp at h0
    ·exact ⟨d,x,by rw [h1]; simp⟩
   have hdl : dn.length = d.length + 1:=by rw [hdx]; simp
   have hw : W ((dn.length : Int) - 1) = (d.length : Int):=by rw [Pa (by omega) (by omega)]; omega
   have hn : nth l (d.length : Int) = x:=by rw [he,hdx]; unfold nth; simp
   have hc : cB x.Who y.Who < 0:=by
    rw [he,hdx,List.append_assoc,List.pairwise_append] at h2
    have:=h2.2.1
    simp only [List.cons_append,List.nil_append,List.pairwise_cons] at this
    exact this.1 y (by simp)
   rw [if_pos (decide_eq_true h0),hw,Gi (show inB (d.length : Int) l.length = true from Kb.2 (by omega)),hn,behindW hc,Bool.and_false,if_neg (by simp)]
   exact ih
  ·rw [if_neg (by simpa using h0),decide_eq_false h0,Bool.false_and,if_neg (by simp)]
   exact ih
theorem QD {l : List Jm} (hl : l.length ≤ 300) (h1 : ∀ s ∈ l,Gy s.Who = some true ∧ 0 ≤ s.Fault ∧ s.Fault ≤ 8) (h2 : l.Pairwise fun a b=>cB a.Who b.Who < 0) : Rc l = some 0:=by
 unfold Rc
 rw [if_neg (by simp; omega),Oj]
 exact KP l hl (some 0) h1 h2 l [] rfl
def ltT (x y : Ej) : Bool:=decide (x.Time < y.Time)
def EY (x y : Ej) : Bool:=decide (x.Time < y.Time ∨ (x.Time = y.Time ∧ cB x.Who y.Who < 0))
theorem GU {x y : Ej} : EY x y = true ↔ x.Time < y.Time ∨ (x.Time = y.Time ∧ cB x.Who y.Who < 0):=by simp [EY]
theorem RY (x y z : Ej) (h1 : EY x y = true) (h2 : EY y z = true) : EY x z = true:=by
 rw [GU] at *
 rcases h1 with h1 | ⟨h1,h3⟩
 ·rcases h2 with h2 | ⟨h2,_⟩ <;> exact .inl (by omega)
 ·rcases h2 with h2 | ⟨h2,h4⟩
  ·exact .inl (by omega)
  ·exact .inr ⟨by omega,BF h3 h4⟩
theorem KQ {α : Type} {lt lt' : α → α → Bool} : ∀ (l rp : List α),(∀ x ∈ l,∀ y ∈ rp,lt x y = lt' x y) → l.Pairwise (fun a b=>lt b a = lt' b a) → Xf lt l rp = Xf lt' l rp
 | [],_,_,_=>rfl
 | x :: l,rp,h1,h2=>by
  rw [List.pairwise_cons] at h2
  show Xf lt l (Vt lt x rp) = Xf lt' l (Vt lt' x rp)
  have e : Vt lt x rp = Vt lt' x rp:=FP x rp (h1 x List.mem_cons_self)
  rw [e]
  refine KQ l _ (fun z hz y hy=>?_) h2.2
  rcases (BE lt' x y rp).1 hy with rfl | hy
  ·exact h2.1 z hz
  ·exact h1 z (List.mem_cons_of_mem _ hz) y hy
theorem RZ {α : Type} {lt lt' : α → α → Bool} (l : List α) (h : l.Pairwise fun a b=>lt b a = lt' b a) : Qd lt l = Qd lt' l:=by
 unfold Qd
 rw [KQ l [] (fun _ _ _ h=>by cases h) h]
theorem XR {l : List Ej} (h : l.Pairwise fun a b=>cB a.Who b.Who < 0) : Qd ltT l = Qd EY l:=RZ l (h.imp fun {a b} hab=>by
 have hf:=JK a.Who b.Who
 unfold ltT EY
 exact decide_eq_decide.2 ⟨.inl,fun hh=>by rcases hh with hh | ⟨_,hh⟩ <;> omega⟩)
theorem QE {l : List Ej} (h : l.Pairwise fun a b=>cB a.Who b.Who < 0) : (Qd EY l).Pairwise fun a b=>EY a b = true:=BG RY l (h.imp fun {a b} hab hb=>by
 rw [← Bool.not_eq_true,GU] at hb
 rw [GU]
 omega)
def SA (x y : Ej) : Bool:=decide (W (W (Int.tdiv x.Time 1) - W (Int.tdiv y.Time 1)) < 0)
theorem ltT1_is (x y : Ej) (hx : 0 ≤ x.Time ∧ x.Time ≤ 360000) (hy : 0 ≤ y.Time ∧ y.Time ≤ 360000) : SA x y = ltT x y:=by
 unfold SA ltT
 rw [Int.tdiv_one,Int.tdiv_one,Pa (n:=x.Time) (by omega) (by omega),Pa (n:=y.Time) (by omega) (by omega),Pa (by omega) (by omega)]
 exact decide_eq_decide.2 (by omega)
theorem VR (l : List Ej) (hl : l.length ≤ 19) (h : ∀ x ∈ l,0 ≤ x.Time ∧ x.Time ≤ 360000) : Jx l 1 = some (Qd ltT l):=by
 rw [← IJ (lt:=SA) (lt':=ltT) l fun x hx y hy=>ltT1_is x y (h x hx) (h y hy)]
 have hs : Il l 0 (l.length : Int) 1 = some (Qd SA l):=by
  unfold Il
  simp only [Oj]
  have hins : ∀ (k : List Ej → Option (List Ej)) (rp : List Ej) (x : Ej) (post : List Ej),((rp ++ x :: post).length : Int) = (l.length : Int) → (∀ y,y ∈ rp ∨ y = x ∨ y ∈ post → y ∈ (rp ++ x :: post)) →
    Fl 0 1 k (((rp.length : Int) - 0).toNat + 2) (rp.reverse ++ x :: post) (rp.length : Int) = k ((Vt SA x rp).reverse ++ post):=by
   intro k rp x post h1 _
   exact MP (fun x y k=>Option.bind (Wp x y 1) fun r=>k (decide (r < 0))) SA k (Fl 0 1 k) (fun _ _ _=>rfl) rp x post _ (by omega) (by simp at h1; omega) fun y hy k'=>by
    unfold Wp
    rw [Gi (by decide),Gi (by decide)]
    rfl
  cases l with
  | nil=>rfl
  | cons x l =>
   have hw : W (0 + 1) = (([x] : List Ej).length : Int):=rfl
   rw [hw]
   exact EI SA (fun x=>some x) (fun k x i=>Fl 0 1 k ((i - 0).toNat + 2) x i) (Gf ((x :: l).length : Int) 0 1 fun x=>some x) ((x :: l).length : Int) (fun _ _ _=>rfl)
    (fun k rp x post h1 h2=>hins k rp x post h1 h2) l [x] _ (by simp only [List.length_cons,List.length_nil]; omega) (by simp only [List.length_cons,List.length_nil]; omega) (by simp only [List.length_cons,List.length_nil] at hl ⊢; omega)
 unfold Jx Le
 simp only [Oj]
 rw [Gz,if_neg (by simp; omega),hs]
 simp only [Option.bind_some]
 rw [Ha,if_neg (by simp; omega)]
 rfl
def rkF (i : Nat) (pt pr : Int) : List Ej → List Ej
 | []=>[]
 | x :: xs=>let r:=if decide (0 < (i : Int)) && decide (x.Time = pt) then pr else (i : Int) + 1
  Ej.mk x.Who r x.Time x.Fault :: rkF (i + 1) x.Time r xs
theorem TV : ∀ (l : List Ej) (i : Nat) (pt pr : Int),(rkF i pt pr l).length = l.length
 | [],_,_,_=>rfl
 | x :: xs,i,pt,pr=>by simp [rkF,TV xs]
theorem JL (j : List Ej → Option (List Ej × Int)) : ∀ (B A ys : List Ej) (pt pr : Int),ys.length = B.length → (A ++ B).length ≤ 1000 → (∀ x ∈ B,0 ≤ x.Time ∧ x.Time ≤ 360000) → (A = [] ∨ ∃ A' z,A = A' ++ [z] ∧ z.Time = pt ∧ z.Rank = pr ∧ 0 ≤ pt ∧ pt ≤ 360000) →
  Om 1 j ys A.length (A ++ B) = j (A ++ rkF A.length pt pr B)
 | [],A,ys,pt,pr,h1,_,_,_=>by
  obtain rfl : ys = []:=List.length_eq_zero_iff.1 h1
  rw [Om]; rfl
 | b :: B,A,[],pt,pr,h1,_,_,_=>by simp at h1
 | b :: B,A,y :: ys,pt,pr,h1,h2,h3,h4=>by
  simp only [List.length_cons,Nat.add_right_cancel_iff] at h1
  have hlen : (A ++ b :: B).length = A.length + (B.length + 1):=by simp
  have hb:=h3 b List.mem_cons_self
  have nb : nth (A ++ b :: B) (A.length : Int) = b:=Ym A b B rfl
  have ib : inB (A.length : Int) (A ++ b :: B).length = true:=Kb.2 (by omega)
  have tb : W (Int.tdiv b.Time 1) = b.Time:=by rw [Int.tdiv_one]; exact Pa (by omega) (by omega)
  have sb : ∀ z : Ej,(A ++ b :: B).set (((A.length : Nat) : Int).toNat) z = (A ++ [z]) ++ B:=fun z=>by simp
  rw [Om]
  simp only [Oj]
  rw [rkF]
  by_cases h0 : (0 : Int) < (A.length : Int)
  ·obtain ⟨A',z,hA,z1,z2,z3,z4⟩ : ∃ A' z,A = A' ++ [z] ∧ z.Time = pt ∧ z.Rank = pr ∧ 0 ≤ pt ∧ pt ≤ 360000:=by
    rcases h4 with h4 | h4
    ·rw [h4] at h0; simp at h0
    ·exact h4
   have hAl : A.length = A'.length + 1:=by rw [hA]; simp
   have hw : W ((A.length : Int) - 1) = (A'.length : Int):=by rw [Pa (by omega) (by omega)]; omega
   have nz : nth (A ++ b :: B) (A'.length : Int) = z:=by rw [hA,List.append_assoc]; exact Ym A' z _ rfl
   have iz : inB (A'.length : Int) (A ++ b :: B).length = true:=Kb.2 (by omega)
   have tz : W (Int.tdiv z.Time 1) = pt:=by rw [Int.tdiv_one,z1]; exact Pa (by omega) (by omega)
   have hw1 : W ((A.length : Int) + 1) = (A.length : Int) + 1:=Pa (by omega) (by omega)
   rw [if_pos (decide_eq_true h0),Gi ib,Gi (by decide),hw,Gi iz,Gi (by decide),nb,nz,tb,tz,decide_eq_true h0,Bool.true_and]
   by_cases ht : b.Time = pt
   ·rw [if_pos (decide_eq_true ht),Gi iz,Gi ib,sb,decide_eq_true ht]
    have:=JL j B (A ++ [Ej.mk b.Who z.Rank b.Time b.Fault]) ys b.Time z.Rank h1 (by simp at h2 ⊢; omega) (fun x hx=>h3 x (List.mem_cons_of_mem _ hx)) (.inr ⟨A,_,rfl,rfl,rfl,hb.1,hb.2⟩)
    rw [List.length_append,List.length_singleton] at this
    rw [this,z2]
    simp
   ·rw [if_neg (by simpa using ht),Gi ib,sb,hw1,decide_eq_false ht]
    have:=JL j B (A ++ [Ej.mk b.Who ((A.length : Int) + 1) b.Time b.Fault]) ys b.Time ((A.length : Int) + 1) h1 (by simp at h2 ⊢; omega) (fun x hx=>h3 x (List.mem_cons_of_mem _ hx)) (.inr ⟨A,_,rfl,rfl,rfl,hb.1,hb.2⟩)
    rw [List.length_append,List.length_singleton] at this
    rw [this]
    simp
  ·have hw1 : W ((A.length : Int) + 1) = (A.length : Int) + 1:=Pa (by omega) (by omega)
   rw [if_neg (by simpa using h0),decide_eq_false h0,Bool.false_and,Bool.false_and,if_neg (by simp),Gi ib,nb,sb,hw1]
   have:=JL j B (A ++ [Ej.mk b.Who ((A.length : Int) + 1) b.Time b.Fault]) ys b.Time ((A.length : Int) + 1) h1 (by simp at h2 ⊢; omega) (fun x hx=>h3 x (List.mem_cons_of_mem _ hx)) (.inr ⟨A,_,rfl,rfl,rfl,hb.1,hb.2⟩)
   rw [List.length_append,List.length_singleton] at this
   rw [this]
   simp
def Zy (V : List Jm) (m : List (ByteArray × Int)) : List (ByteArray × Int):=V.foldl (fun m v=>Hj m v.Who v.Fault) m
theorem TW (j : List (ByteArray × Int) → Option (List Ej × Int)) : ∀ (V : List Jm) (i : Nat) (m : List (ByteArray × Int)),Pp j V i m = j (Zy V m)
 | [],_,m=>rfl
 | v :: V,i,m=>by rw [Pp,TW j V (i + 1) _]; rfl
def mkR (f : ByteArray → Int) (s : Kq) : Ej:=Ej.mk s.Who 0 s.Time (f s.Who)
def isG (f : ByteArray → Int) (s : Kq) : Bool:=decide (f s.Who = 0) && decide (0 < s.Time)
theorem ON (x1 : List (ByteArray × Int)) (j : List Ej → List Ej → Option (List Ej × Int)) : ∀ (ys : List Kq) (i : Nat) (x2 x3 : List Ej),x2.length + ys.length ≤ 1000 → x3.length + ys.length ≤ 1000 →
  Ol x1 j ys i x2 x3 = j (x2 ++ (ys.filter fun s=>!isG (fun w=>Et x1 w 0) s).map (mkR fun w=>Et x1 w 0)) (x3 ++ (ys.filter (isG fun w=>Et x1 w 0)).map (mkR fun w=>Et x1 w 0))
 | [],i,x2,x3,_,_=>by simp [Ol]
 | y :: ys,i,x2,x3,h2,h3=>by
  simp only [List.length_cons] at h2 h3
  rw [Ol]
  simp only [Oj]
  have hg : isG (fun w=>Et x1 w 0) y = (decide (Et x1 y.Who 0 = 0) && decide (0 < y.Time)):=rfl
  have hm : mkR (fun w=>Et x1 w 0) y = Ej.mk y.Who 0 y.Time (Et x1 y.Who 0):=rfl
  cases hc : (decide (Et x1 y.Who 0 = 0) && decide (0 < y.Time)) with
  | true =>
   rw [if_pos rfl,Gi (by unfold Sb; exact decide_eq_true (by omega)),ON x1 j ys (i + 1) x2 _ (by omega) (by simp; omega),List.filter_cons_of_neg (by rw [hg,hc]; simp),List.filter_cons_of_pos (by rw [hg,hc]),List.map_cons,hm]
   simp
  | false =>
   rw [if_neg (by simp),Gi (by unfold Sb; exact decide_eq_true (by omega)),ON x1 j ys (i + 1) _ x3 (by simp; omega) (by omega),List.filter_cons_of_pos (by rw [hg,hc]; simp),List.filter_cons_of_neg (by rw [hg,hc]; simp),List.map_cons,hm]
   simp
def Zs (f : ByteArray → Int) (Q : List Kq) : List Ej :=
 rkF 0 0 0 (Qd EY ((Q.filter (isG f)).map (mkR f))) ++ (Q.filter fun s=>!isG f s).map (mkR f)
theorem rank_is {Q : List Kq} {V : List Jm} (hl : Q.length ≤ 19) (h1 : ∀ s ∈ Q,Gy s.Who = some true ∧ 0 ≤ s.Time ∧ s.Time ≤ 360000) (h2 : Q.Pairwise fun a b=>cB a.Who b.Who < 0) (hv : V.length ≤ 300) (v1 : ∀ s ∈ V,Gy s.Who = some true ∧ 0 ≤ s.Fault ∧ s.Fault ≤ 8) (v2 : V.Pairwise fun a b=>cB a.Who b.Who < 0) :
  Yc Q V = some (Zs (fun w=>Et (Zy V []) w 0) Q,0):=by
 have hnd : (Q.map (·.Who)).Nodup:=List.pairwise_map.2 (h2.imp fun {a b} h e=>by rw [e,Ud] at h; omega)
 have hgl:=List.length_filter_le (isG fun w=>Et (Zy V []) w 0) Q
 have hbl:=List.length_filter_le (fun s=>!isG (fun w=>Et (Zy V []) w 0) s) Q
 have hG : ∀ x ∈ (Q.filter (isG fun w=>Et (Zy V []) w 0)).map (mkR fun w=>Et (Zy V []) w 0),0 ≤ x.Time ∧ x.Time ≤ 360000:=fun x hx=>by
  obtain ⟨s,hs,rfl⟩:=List.mem_map.1 hx
  exact (h1 s (List.mem_filter.1 hs).1).2
 have hGp : ((Q.filter (isG fun w=>Et (Zy V []) w 0)).map (mkR fun w=>Et (Zy V []) w 0)).Pairwise fun a b=>cB a.Who b.Who < 0:=by
  rw [List.pairwise_map]
  exact h2.sublist List.filter_sublist
 unfold Yc BQ
 rw [XQ (by omega) h1 hnd]
 simp only [Option.bind_some,decide_true,Bool.not_true,Bool.false_eq_true,if_false]
 rw [QD hv v1 v2]
 simp only [Option.bind_some,decide_true,Bool.not_true,Bool.false_eq_true,if_false,Oj]
 rw [TW,ON _ _ Q 0 [] [] (by simp; omega) (by simp; omega),List.nil_append,List.nil_append,VR _ (by rw [List.length_map]; omega) hG,XR hGp]
 simp only [Option.bind_some]
 have hl3:=JL (fun x8=>Chk (decide (x8.length + ((Q.filter fun s=>!isG (fun w=>Et (Zy V []) w 0) s).map (mkR fun w=>Et (Zy V []) w 0)).length < 1073741824)) (some (x8 ++ (Q.filter fun s=>!isG (fun w=>Et (Zy V []) w 0) s).map (mkR fun w=>Et (Zy V []) w 0),0)))
  (Qd EY ((Q.filter (isG fun w=>Et (Zy V []) w 0)).map (mkR fun w=>Et (Zy V []) w 0))) [] (Qd EY ((Q.filter (isG fun w=>Et (Zy V []) w 0)).map (mkR fun w=>Et (Zy V []) w 0))) 0 0 rfl (by rw [List.nil_append,Yf,List.length_map]; omega) (fun x hx=>hG x ((Us _ _ _).1 hx)) (.inl rfl)
 rw [List.length_nil,List.nil_append,List.nil_append] at hl3
 rw [hl3,Gi (by rw [TV,Yf,List.length_map,List.length_map]; exact decide_eq_true (by omega))]
 rfl
end Go.Proofs.YtjofndbcioknfaaGreatDoor
namespace Go.Proofs.YtjofndbcioknfaaGreatDoor
open Go
def ltW (x y : Eg) : Bool:=decide (Pf x y < 0)
theorem VS (l : List Eg) (hl : l.length ≤ 12) : Jd l 0 (l.length : Int) = some (Qd ltW l):=by
 unfold Jd
 simp only [Oj]
 have hins : ∀ (k : List Eg → Option (List Eg)) (rp : List Eg) (x : Eg) (post : List Eg),((rp ++ x :: post).length : Int) = (l.length : Int) → (∀ y,y ∈ rp ∨ y = x ∨ y ∈ post → y ∈ (rp ++ x :: post)) →
   Fj 0 k (((rp.length : Int) - 0).toNat + 2) (rp.reverse ++ x :: post) (rp.length : Int) = k ((Vt ltW x rp).reverse ++ post):=by
  intro k rp x post h1 _
  exact MP (fun x y k=>k (ltW x y)) ltW k (Fj 0 k) (fun _ _ _=>rfl) rp x post _ (by omega) (by simp at h1; omega) fun y _ k'=>rfl
 cases l with
 | nil=>rfl
 | cons x l =>
  have hw : W (0 + 1) = (([x] : List Eg).length : Int):=rfl
  rw [hw]
  exact EI ltW (fun x=>some x) (fun k x i=>Fj 0 k ((i - 0).toNat + 2) x i) (Gd ((x :: l).length : Int) 0 fun x=>some x) ((x :: l).length : Int) (fun _ _ _=>rfl)
   (fun k rp x post h1 h2=>hins k rp x post h1 h2) l [x] _ (by simp only [List.length_cons,List.length_nil]; omega) (by simp only [List.length_cons,List.length_nil]; omega) (by simp only [List.length_cons,List.length_nil] at hl ⊢; omega)
theorem XS (l : List Eg) (hl : l.length ≤ 12) : Kk l = some (Qd ltW l):=by
 unfold Kk
 obtain ⟨r,hr⟩:=Option.isSome_iff_exists.1 (len_d ⟨l.length,by omega⟩)
 simp only at hr
 rw [hr]
 simp only [Option.bind_some]
 unfold Ks
 rw [show (4611686018427387904 : Nat) = 4611686018427387903 + 1 from rfl,Hh,Pa (by omega) (by omega),if_pos (decide_eq_true (by omega)),VS l hl]
 rfl
theorem KR (x y : Eg) : ltW x y = decide (cB x.Who y.Who < 0):=rfl
theorem ltW_irr (x : Eg) : ltW x x = false:=by rw [KR,Ud]; rfl
theorem HX (x y z : Eg) (h1 : ltW x y = true) (h2 : ltW y z = true) : ltW x z = true:=by
 rw [KR,decide_eq_true_eq] at *; exact BF h1 h2
theorem OO {l : List Eg} (h : (l.map (·.Who)).Nodup) : l.Pairwise fun a b=>ltW b a = false → ltW a b = true:=by
 refine (List.pairwise_map.1 h).imp fun {a b} hne hb=>?_
 rw [KR,decide_eq_false_iff_not] at hb
 rw [KR,decide_eq_true_eq]
 have h0 : cB a.Who b.Who ≠ 0:=fun e=>hne (JJ e)
 have:=JK a.Who b.Who
 omega
end Go.Proofs.YtjofndbcioknfaaGreatDoor
