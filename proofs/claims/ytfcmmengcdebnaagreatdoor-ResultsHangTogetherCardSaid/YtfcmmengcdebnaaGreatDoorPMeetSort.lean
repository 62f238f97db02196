/- Entries of a race that are sorted by who they are of. No program stands here but its twins. -/
import Derived.Test.YtfcmmengcdebnaaGreatDoorTw
/- Plain facts on the stream of choices. No program stands here but its twins. -/
namespace Go.Proofs.YtfcmmengcdebnaaGreatDoor
open Go

theorem Fx {R : Type} {c : Bool} {k : Option R} (h : c = true) : Chk c k = k:=by simp [Chk,h]
theorem Jc {κ R : Type} (K : κ) (f : κ → R) : Gj K f = f K:=rfl
theorem GN {x n : Int} (hn : 0 < n) : -n < Int.tmod x n ∧ Int.tmod x n < n:=by
 have h1:=Int.tmod_lt_of_pos x hn
 have h2:=Int.tmod_lt_of_pos (-x) hn
 rw [Int.neg_tmod] at h2
 omega
theorem IL (x n : Int) (hn : n ≤ 4611686018427387904) : ∃ v,Qi x n = some v ∧ 0 ≤ v ∧ (v < n ∨ (n < 1 ∧ v = 0)):=by
 unfold Qi
 by_cases h : n < 1
 ·exact ⟨0,by simp [h],Int.le_refl _,.inr ⟨h,rfl⟩⟩
 ·have h1:=GN (x:=x) (n:=n) (by omega)
  have h0 : ¬ n = 0:=by omega
  simp only [decide_eq_true_eq,h,if_false,Gj]
  rw [Fx (by simp [h0])]
  by_cases h2 : Int.tmod x n < 0
  ·rw [if_pos h2,Nu (by omega) (by omega)]
   exact ⟨_,rfl,by omega,.inl (by omega)⟩
  ·rw [if_neg h2]
   exact ⟨_,rfl,by omega,.inl (by omega)⟩
theorem CM (L : List Int) (a n : Int) (ha : 0 ≤ a) (ha' : a ≤ 4611686018427387904) (hL : (L.length : Int) ≤ 9223372036854775807) (hn : n ≤ 4611686018427387904) :
  ∃ v,Pv L a n = some (v,a + 1) ∧ 0 ≤ v ∧ (v < n ∨ (n < 1 ∧ v = 0)):=by
 have w1 : W (a + 1) = a + 1:=Nu (by omega) (by omega)
 have w2 : W (a + 1 - 1) = a:=by rw [show a + 1 - 1 = a by omega]; exact Nu (by omega) (by omega)
 unfold Pv
 rw [w1,w2]
 by_cases h : (L.length : Int) = 0
 ·obtain ⟨v,h1,h2,h3⟩:=IL (W ((a + 1) * 7919)) n hn
  exact ⟨v,by simp [h,h1],h2,h3⟩
 ·have h0 : 0 < (L.length : Int):=by omega
  have hm:=GN (x:=a) h0
  have hm0 : 0 ≤ Int.tmod a (L.length : Int):=Int.tmod_nonneg _ ha
  have hc : inB (Int.tmod a (L.length : Int)) L.length = true:=Jf.2 ⟨hm0,hm.2⟩
  obtain ⟨v1,e1,_,_⟩:=IL (nth L (Int.tmod a (L.length : Int))) 1073741824 (by omega)
  simp only [decide_eq_true_eq,h,if_false]
  rw [Fx (by simp),Fx (by simp),Fx hc,e1]
  simp only [Option.bind_some]
  obtain ⟨v2,e2,g1,g2⟩:=IL (W (v1 + W (W (Int.tdiv a (L.length : Int)) * W (7919 + Int.tmod a (L.length : Int))))) n hn
  exact ⟨v2,by rw [e2]; rfl,g1,g2⟩
theorem QW (L : List Int) (a : Int) (l : List Int) (ha : 0 ≤ a) (ha' : a ≤ 4611686018427387904) (hL : (L.length : Int) ≤ 9223372036854775807) (hl : 0 < l.length) (hl' : l.length ≤ 1000) :
  ∃ v,Jp L a l = some (v,a + 1) ∧ v ∈ l:=by
 obtain ⟨v,h1,h2,h3⟩:=CM L a (l.length : Int) ha ha' hL (by omega)
 have h4 : v < (l.length : Int):=by omega
 have hc : inB v l.length = true:=Jf.2 ⟨h2,h4⟩
 unfold Jp
 rw [h1]
 simp only [Option.bind_some]
 rw [Fx hc]
 exact ⟨nth l v,rfl,List.mem_of_getElem? (Dx hc).1⟩
theorem QX (L : List Int) (a n : Int) (ha : 0 ≤ a) (ha' : a ≤ 4611686018427387904) (hL : (L.length : Int) ≤ 9223372036854775807) (hn : n ≤ 4611686018427387904) : ∃ b,Sf L a n = some (b,a + 1):=by
 obtain ⟨v,h1,_,_⟩:=CM L a n ha ha' hL hn
 unfold Sf
 rw [h1]
 exact ⟨_,rfl⟩
end Go.Proofs.YtfcmmengcdebnaaGreatDoor
/- Keys: what the program and the document ask of a key is the same. No program stands here but its twins. -/
namespace Go.Proofs.YtfcmmengcdebnaaGreatDoor
open Go

theorem MB {l : List UInt8} {c : UInt8} : decide (Lib.indexByte l c < 0) = !l.contains c:=by
 have key : ∀ l : List UInt8,(Lib.indexByte l c = -1 ∧ l.contains c = false) ∨ (0 ≤ Lib.indexByte l c ∧ l.contains c = true):=by
  intro l
  induction l with
  | nil=>exact .inl ⟨rfl,rfl⟩
  | cons b l ih =>
   by_cases hb : b = c
   ·subst hb; exact .inr (by simp [Lib.indexByte])
   ·have hb' : (b == c) = false:=by simpa using hb
    have hc : (c == b) = false:=by simpa using fun h=>hb h.symm
    rcases ih with ⟨h1,h2⟩ | ⟨h1,h2⟩
    ·refine .inl ⟨by simp [Lib.indexByte,hb',h1],?_⟩
     rw [List.contains_cons,hc,h2]; rfl
    ·have h3 : ¬ Lib.indexByte l c = -1:=by omega
     refine .inr ⟨by simp [Lib.indexByte,hb',h3]; omega,?_⟩
     rw [List.contains_cons,hc,h2]; rfl
 rcases key l with ⟨h1,h2⟩ | ⟨h1,h2⟩
 ·rw [h1,h2]; rfl
 ·rw [h2]; simp; omega
theorem SX (u : UInt8) : ((u.toNat : Int)).toNat.toUInt8 = u:=by simp
theorem Zi (s : ByteArray) : s.size = s.data.toList.length:=by rw [ByteArray.size,Array.length_toList]
theorem KQ {s : ByteArray} {j : Nat} {u : UInt8} (h : s.data.toList[j]? = some u) : Yk s (j : Int) = (u.toNat : Int):=by
 unfold Yk
 rw [Int.toNat_natCast]
 simp [List.getD,h]
theorem SY (s some_ : ByteArray) : ∀ (k : Nat) (m : Nat),k + m = s.size + 1 → s.size ≤ 4611686018427387904 →
  Li s some_ (some true) (m + 1) (k : Int) = some ((s.data.toList.drop k).all fun b=>some_.data.toList.contains b):=by
 intro k m
 induction m generalizing k with
 | zero =>
  intro h hs
  have h1 : ¬ (k : Int) < (s.size : Int):=by omega
  rw [Li]
  rw [if_neg (by simpa using h1),List.drop_of_length_le (by rw [← Zi]; omega)]
  rfl
 | succ m ih =>
  intro h hs
  rw [Li]
  by_cases h1 : (k : Int) < (s.size : Int)
  ·have hk : k < s.data.toList.length:=by rw [← Zi]; omega
   have hget : s.data.toList[k]? = some s.data.toList[k]:=List.getElem?_eq_getElem hk
   rw [if_pos (decide_eq_true h1),Fx (Jf.2 ⟨by omega,h1⟩),List.drop_eq_getElem_cons hk,List.all_cons]
   have hb : decide (Tb some_ (Yk s (k : Int)) < 0) = !some_.data.toList.contains s.data.toList[k]:=by
    unfold Tb
    rw [KQ hget,SX,MB]
   rw [hb]
   cases hc : some_.data.toList.contains s.data.toList[k] with
   | false=>simp
   | true =>
    simp only [Bool.not_true,Bool.false_eq_true,if_false,Bool.true_and]
    have hw : W ((k : Int) + 1) = ((k + 1 : Nat) : Int):=by rw [Nu (by omega) (by omega)]; omega
    rw [hw]
    exact ih (k + 1) (by omega) hs
  ·rw [if_neg (by simpa using h1),List.drop_of_length_le (by rw [← Zi]; omega)]
   rfl
theorem QY (s some_ : ByteArray) (hs : s.size ≤ 4611686018427387904) : St s some_ = some (s.data.toList.all fun b=>some_.data.toList.contains b):=by
 unfold St
 rw [Jc]
 have h:=SY s some_ 0 (s.size + 1) (by omega) hs
 have e : ((s.size : Int) - 0).toNat + 2 = s.size + 1 + 1:=by omega
 rw [e]
 exact h
theorem Ws {p : UInt8 → Bool} : ∀ {l : List UInt8},l.dropWhile p = [] ↔ l.all p = true
 | []=>by simp
 | a :: l=>by
  rw [List.dropWhile_cons,List.all_cons]
  cases h : p a with
  | true=>simpa [h] using Ws (p:=p) (l:=l)
  | false=>simp
theorem UT {l cs : List UInt8} : Lib.trimS l cs = [] ↔ l.all (fun b=>cs.contains b) = true:=by
 unfold Lib.trimS Lib.trimLeftS Lib.trimRightS
 rw [Ws,List.all_reverse]
 constructor
 ·intro h
  have h2 : l.reverse.dropWhile (fun x=>cs.contains x) = []:=by
   cases hd : l.reverse.dropWhile (fun x=>cs.contains x) with
   | nil=>rfl
   | cons a r =>
    have h3:=List.head_dropWhile_not (fun x=>cs.contains x) (l:=l.reverse) (by rw [hd]; simp)
    rw [hd] at h
    simp only [hd,List.head_cons] at h3
    rw [List.all_cons,h3] at h
    cases h
  rw [Ws,List.all_reverse] at h2
  exact h2
 ·intro h
  have h2 : l.reverse.dropWhile (fun x=>cs.contains x) = []:=by rw [Ws,List.all_reverse]; exact h
  rw [h2]; rfl
end Go.Proofs.YtfcmmengcdebnaaGreatDoor
/- Keys,the two readings joined. No program stands here but its twins. -/
namespace Go.Proofs.YtfcmmengcdebnaaGreatDoor
open Go

theorem SZ (u : UInt8) : Kn.data.toList.contains u = (decide (97 ≤ (u.toNat : Int)) && decide ((u.toNat : Int) ≤ 122)):=by
 have key : ∀ n : Fin 256,Kn.data.toList.contains (UInt8.ofNat n.val) = (decide (97 ≤ (((UInt8.ofNat n.val).toNat : Nat) : Int)) && decide ((((UInt8.ofNat n.val).toNat : Nat) : Int) ≤ 122)):=by decide +kernel
 have h:=key ⟨u.toNat,u.toNat_lt⟩
 simpa using h
theorem TA : (Hx.data.toList.all fun b=>decide (b.toNat < 128)) = true:=by decide +kernel
theorem TC (l : List UInt8) : ((⟨l.toArray⟩ : ByteArray) = An) ↔ l = []:=by
 constructor
 ·intro h
  have h2:=congrArg (fun b : ByteArray=>b.data.toList) h
  simpa [An] using h2
 ·rintro rfl; rfl
theorem Wa (s : ByteArray) : ∃ b,Gf s = some b ∧ Ov s = some b:=by
 by_cases hs : 1 ≤ s.size ∧ s.size ≤ 40
 ·obtain ⟨h1,h2⟩:=hs
  have hsz:=Zi s
  obtain ⟨u,r,hl⟩ : ∃ u r,s.data.toList = u :: r:=by
   cases h : s.data.toList with
   | nil=>rw [h] at hsz; exact absurd hsz (by show ¬ s.size = 0; omega)
   | cons u r=>exact ⟨u,r,rfl⟩
  have hin : Kh (s.size : Int) 1 40 = true:=by unfold Kh; simp; omega
  have hwin : (decide (1 ≤ (s.size : Int)) && decide ((s.size : Int) ≤ 40)) = true:=by simp; omega
  have hb0 : inB 0 s.size = true:=Jf.2 ⟨by omega,by omega⟩
  have hc0 : CR 0 1 s.size = true:=Uz.2 ⟨by omega,by omega,by omega⟩
  have hu : Yk s 0 = (u.toNat : Int):=KQ (j:=0) (by rw [hl]; rfl)
  have hcut : (MO s 0 1).data.toList = [u]:=by
   unfold MO
   simp [hl]
  have hcsz : (MO s 0 1).size ≤ 4611686018427387904:=by rw [Zi,hcut]; simp
  have hall:=QY s Hx (by omega)
  have hone:=QY (MO s 0 1) Kn hcsz
  rw [hcut] at hone
  simp only [List.all_cons,List.all_nil,Bool.and_true,SZ] at hone
  have htrim : Vj s Hx = some ⟨(Lib.trimS s.data.toList Hx.data.toList).toArray⟩:=by
   unfold Vj
   rw [Fx (by simp; omega),Fx (by decide +kernel),Fx TA]
  have htr : decide ((⟨(Lib.trimS s.data.toList Hx.data.toList).toArray⟩ : ByteArray) = An) = s.data.toList.all fun b=>Hx.data.toList.contains b:=by
   rw [Bool.eq_iff_iff,decide_eq_true_eq,TC,UT]
  refine ⟨(decide (97 ≤ (u.toNat : Int)) && decide ((u.toNat : Int) ≤ 122)) && s.data.toList.all fun b=>Hx.data.toList.contains b,?_,?_⟩
  ·unfold Gf
   simp only [Jc,hwin,if_true,Bool.true_and,Fx hb0,hu]
   by_cases g1 : 97 ≤ (u.toNat : Int)
   ·simp only [g1,decide_true,if_true,Bool.true_and]
    by_cases g2 : (u.toNat : Int) ≤ 122
    ·simp only [g2,decide_true,if_true,Bool.true_and,htrim,Option.bind_some,htr]
    ·simp only [g2,decide_false,Bool.false_eq_true,if_false,Bool.false_and]
   ·simp only [g1,decide_false,Bool.false_eq_true,if_false,Bool.false_and]
  ·unfold Ov
   simp only [Jc,hin,if_true,Bool.true_and,Fx hc0,hone,Option.bind_some]
   cases hz : (decide (97 ≤ (u.toNat : Int)) && decide ((u.toNat : Int) ≤ 122)) with
   | true=>simp only [if_true,hall,Option.bind_some,Bool.true_and]
   | false=>simp only [Bool.false_eq_true,if_false,Bool.false_and]
 ·refine ⟨false,?_,?_⟩
  ·have hwin : (decide (1 ≤ (s.size : Int)) && decide ((s.size : Int) ≤ 40)) = false:=by simp; omega
   unfold Gf
   simp only [Jc,hwin,Bool.false_eq_true,if_false,Bool.false_and]
  ·have hin : Kh (s.size : Int) 1 40 = false:=by unfold Kh; simp; omega
   unfold Ov
   simp only [Jc,hin,Bool.false_eq_true,if_false,Bool.false_and]
end Go.Proofs.YtfcmmengcdebnaaGreatDoor
/- Maps,as lists of entries. No program stands here. -/
namespace Go.Proofs.YtfcmmengcdebnaaGreatDoor
open Go
theorem BW {κ ν : Type} [DecidableEq κ] (k k' : κ) (v : ν) : ∀ (m : List (κ × ν)) (i : Nat),(Oc (Gl m k v) k' i).map (·.2) = if k' = k then some v else (Oc m k' i).map (·.2)
 | [],i=>by
  by_cases h : k' = k <;> simp [Gl,Oc,h]
 | (q,u) :: m,i=>by
  by_cases h1 : k = q
  ·subst h1
   by_cases h2 : k' = k <;> simp [Gl,Oc,h2]
  ·by_cases h2 : k' = q
   ·subst h2
    simp [Gl,Oc,h1]
    exact fun h=>(h1 h.symm).elim
   ·simp only [Gl,h1,if_false,Oc,h2]
    exact BW k k' v m (i + 1)
theorem Wt {κ ν : Type} [DecidableEq κ] (m : List (κ × ν)) (k k' : κ) (v d : ν) : Ea (Gl m k v) k' d = if k' = k then v else Ea m k' d:=by
 unfold Ea Qy
 rw [BW]
 split <;> simp
end Go.Proofs.YtfcmmengcdebnaaGreatDoor
/- Go's library loops in general: a search,a list that loses elements,an insertion sort. Conditions: the lists are not long; the loops' equations are given. No program stands here. -/
namespace Go.Proofs.YtfcmmengcdebnaaGreatDoor
open Go
theorem On {κ R : Type} (K : κ) (f : κ → R) : Gj K f = f K:=rfl
theorem TD {R : Type} {c : Bool} {k : Option R} (h : c = true) : Chk c k = k:=by subst h; rfl
section
variable {α R : Type}
variable [Inhabited α]
theorem Wu (a : List α) (y : α) (b : List α) {e : Int} (he : e = (a.length : Int)) : nth (a ++ y :: b) e = y:=by
 subst he
 simp [nth]
def Ua (lt : α → α → Bool) (x : α) : List α → List α
 | []=>[x]
 | y :: r=>if lt x y then y :: Ua lt x r else x :: y :: r
def Ux (lt : α → α → Bool) (l rp : List α) : List α:=l.foldl (fun rp x=>Ua lt x rp) rp
def Qp (lt : α → α → Bool) (l : List α) : List α:=(Ux lt l []).reverse
omit [Inhabited α] in
theorem BX (lt : α → α → Bool) (x : α) : ∀ l : List α,(Ua lt x l).length = l.length + 1
 | []=>rfl
 | y :: r=>by
  unfold Ua
  split
  ·simp [BX lt x r]
  ·rfl
omit [Inhabited α] in
theorem Zj (lt : α → α → Bool) (x z : α) : ∀ l : List α,z ∈ Ua lt x l ↔ z = x ∨ z ∈ l
 | []=>by simp [Ua]
 | y :: r=>by
  unfold Ua
  split
  ·simp only [List.mem_cons,Zj lt x z r]
   constructor
   ·rintro (h | h | h)
    ·exact .inr (.inl h)
    ·exact .inl h
    ·exact .inr (.inr h)
   ·rintro (h | h | h)
    ·exact .inr (.inl h)
    ·exact .inl h
    ·exact .inr (.inr h)
  ·simp
theorem NN (C : α → α → (Bool → Option R) → Option R) (lt : α → α → Bool) (j : List α → Option R) (F : Nat → List α → Int → Option R)
  (h : ∀ m x i,F (m + 1) x i = if decide (0 < i) then Chk (inB i x.length) (Chk (inB (W (i - 1)) x.length) (C (nth x i) (nth x (W (i - 1))) (fun b=>if b then
   Chk (inB (W (i - 1)) x.length) (Chk (inB i x.length) (Chk (inB i x.length) (Chk (inB (W (i - 1)) (x.set i.toNat (nth x (W (i - 1)))).length) (F m ((x.set i.toNat (nth x (W (i - 1)))).set (W (i - 1)).toNat (nth x i)) (W (i - 1)))))) else j x))) else j x) :
  ∀ (rp : List α) (x : α) (post : List α) (m : Nat),rp.length < m → rp.length + post.length < 1073741824 → (∀ y ∈ rp,∀ k,C x y k = k (lt x y)) →
   F m (rp.reverse ++ x :: post) (rp.length : Int) = j ((Ua lt x rp).reverse ++ post)
 | [],x,post,m,h1,h2,_=>by
  obtain ⟨m,rfl⟩ : ∃ q,m = q + 1:=⟨m - 1,by omega⟩
  rw [h,if_neg (by simp)]
  rfl
 | y :: r,x,post,m,h1,h2,hC=>by
  obtain ⟨m,rfl⟩ : ∃ q,m = q + 1:=⟨m - 1,by omega⟩
  simp only [List.length_cons] at h1 h2
  have e0 : (y :: r).reverse ++ x :: post = r.reverse ++ y :: x :: post:=by simp
  have e0' : r.reverse ++ y :: x :: post = (r.reverse ++ [y]) ++ x :: post:=by simp
  have wi : W ((((y :: r).length : Nat) : Int) - 1) = (r.length : Int):=by rw [Nu (by simp only [List.length_cons]; omega) (by simp only [List.length_cons]; omega)]; simp
  have n1 : nth (r.reverse ++ y :: x :: post) (((y :: r).length : Nat) : Int) = x:=by rw [e0']; exact Wu _ _ _ (by simp)
  have n2 : nth (r.reverse ++ y :: x :: post) (r.length : Int) = y:=Wu _ _ _ (by simp)
  have b1 : inB (((y :: r).length : Nat) : Int) (r.reverse ++ y :: x :: post).length = true:=Jf.2 ⟨by omega,by simp; omega⟩
  have b2 : inB (r.length : Int) (r.reverse ++ y :: x :: post).length = true:=Jf.2 (by simp; omega)
  rw [h,e0,if_pos (decide_eq_true (by simp only [List.length_cons]; omega)),wi,TD b1,TD b2,n1,n2,hC y List.mem_cons_self]
  unfold Ua
  cases hb : lt x y with
  | true =>
   simp only [if_true]
   rw [TD b2,TD b1,TD b1,TD (by rw [List.length_set]; exact b2)]
   have e1 : ((r.reverse ++ y :: x :: post).set (((y :: r).length : Nat) : Int).toNat y).set (r.length : Int).toNat x = r.reverse ++ x :: (y :: post):=by
    have e2 : (r.reverse ++ y :: x :: post).set (((y :: r).length : Nat) : Int).toNat y = r.reverse ++ y :: y :: post:=by
     rw [e0',show (((y :: r).length : Nat) : Int).toNat = (r.reverse ++ [y]).length by simp,List.set_append_right _ _ (Nat.le_refl _)]
     simp
    rw [e2,show (r.length : Int).toNat = r.reverse.length by simp,List.set_append_right _ _ (Nat.le_refl _)]
    simp
   rw [e1,NN C lt j F h r x (y :: post) m (by omega) (by simp; omega) (fun z hz=>hC z (List.mem_cons_of_mem _ hz))]
   simp
  | false=>simp
omit [Inhabited α] in
theorem FC (lt : α → α → Bool) (j : List α → Option R) (G : (List α → Option R) → List α → Int → Option R) (F : Nat → List α → Int → Option R) (n : Int)
  (h : ∀ m x i,F (m + 1) x i = if decide (i < n) then G (fun x=>F m x (W (i + 1))) x i else j x)
  (hG : ∀ k (rp : List α) (x : α) (post : List α),((rp ++ x :: post).length : Int) = n → (∀ y,y ∈ rp ∨ y = x ∨ y ∈ post → y ∈ (rp ++ x :: post)) → G k (rp.reverse ++ x :: post) (rp.length : Int) = k ((Ua lt x rp).reverse ++ post)) :
  ∀ (rest rp : List α) (m : Nat),rest.length < m → ((rp.length + rest.length : Nat) : Int) = n → rp.length + rest.length < 1073741824 →
   F m (rp.reverse ++ rest) (rp.length : Int) = j (Ux lt rest rp).reverse
 | [],rp,m,h1,h2,_=>by
  obtain ⟨m,rfl⟩ : ∃ q,m = q + 1:=⟨m - 1,by omega⟩
  rw [h,if_neg (by simp at h2; simp; omega)]
  simp [Ux]
 | x :: r,rp,m,h1,h2,h3=>by
  obtain ⟨m,rfl⟩ : ∃ q,m = q + 1:=⟨m - 1,by omega⟩
  simp only [List.length_cons] at h1 h2 h3
  rw [h,if_pos (by simp; omega),hG _ rp x r (by simp; omega) (fun y hy=>by simpa using hy),show W ((rp.length : Int) + 1) = ((Ua lt x rp).length : Int) by rw [Nu (by omega) (by omega),BX]; rfl,
   FC lt j G F n h hG r (Ua lt x rp) m (by omega) (by rw [BX]; omega) (by rw [BX]; omega)]
  rfl
omit [Inhabited α] in
theorem KR (lt : α → α → Bool) (z : α) : ∀ l rp : List α,z ∈ Ux lt l rp ↔ z ∈ l ∨ z ∈ rp
 | [],rp=>by simp [Ux]
 | x :: l,rp=>by
  show z ∈ Ux lt l (Ua lt x rp) ↔ _
  rw [KR lt z l,Zj]
  simp only [List.mem_cons]
  constructor
  ·rintro (h | h | h)
   ·exact .inl (.inr h)
   ·exact .inl (.inl h)
   ·exact .inr h
  ·rintro ((h | h) | h)
   ·exact .inr (.inl h)
   ·exact .inl h
   ·exact .inr (.inr h)
omit [Inhabited α] in
end
end Go.Proofs.YtfcmmengcdebnaaGreatDoor
/- Loops over lists in general: what is picked and appended,what is contained,lists that are equal,neighbours that are struck. Conditions: the lists are not long; the loops' equations are given. No program stands here. -/
namespace Go.Proofs.YtfcmmengcdebnaaGreatDoor
open Go
section
variable {α β R : Type}
variable [DecidableEq α] [Inhabited α]
end
section
variable {α R : Type} [Inhabited α]
end
end Go.Proofs.YtfcmmengcdebnaaGreatDoor
/- The order of strings,byte by byte,is an order. No program stands here. -/
namespace Go.Proofs.YtfcmmengcdebnaaGreatDoor
open Go
theorem QZ : ∀ l : List UInt8,Lib.compareBytes l l = 0
 | []=>rfl
 | a :: l=>by
  rw [Lib.compareBytes,if_neg (by simp),if_neg (by simp)]; exact QZ l
theorem RA : ∀ l m : List UInt8,Lib.compareBytes l m = 0 → l = m
 | [],[],_=>rfl
 | [],_ :: _,h=>by simp [Lib.compareBytes] at h
 | _ :: _,[],h=>by simp [Lib.compareBytes] at h
 | a :: l,b :: m,h=>by
  rw [Lib.compareBytes] at h
  split at h
  ·cases h
  ·split at h
   ·cases h
   ·rename_i h1 h2
    rw [UInt8.lt_iff_toNat_lt] at h1 h2
    rw [RA l m h,show a = b from UInt8.toNat_inj.1 (by omega)]
theorem UU : ∀ l m : List UInt8,Lib.compareBytes l m = -1 ∨ Lib.compareBytes l m = 0 ∨ Lib.compareBytes l m = 1
 | [],[]=>.inr (.inl rfl)
 | [],_ :: _=>.inl rfl
 | _ :: _,[]=>.inr (.inr rfl)
 | a :: l,b :: m=>by
  rw [Lib.compareBytes]
  split
  ·exact .inl rfl
  ·split
   ·exact .inr (.inr rfl)
   ·exact UU l m
theorem RB : ∀ l m : List UInt8,Lib.compareBytes m l = - Lib.compareBytes l m
 | [],[]=>rfl
 | [],_ :: _=>rfl
 | _ :: _,[]=>rfl
 | a :: l,b :: m=>by
  rw [Lib.compareBytes,Lib.compareBytes,RB l m]
  simp only [UInt8.lt_iff_toNat_lt]
  by_cases h1 : a.toNat < b.toNat
  ·rw [if_neg (by omega),if_pos h1,if_pos h1]; rfl
  ·by_cases h2 : b.toNat < a.toNat
   ·rw [if_pos h2,if_neg h1,if_pos h2]
   ·rw [if_neg h2,if_neg h1,if_neg h1,if_neg h2]
theorem NO : ∀ l m k : List UInt8,Lib.compareBytes l m < 0 → Lib.compareBytes m k < 0 → Lib.compareBytes l k < 0
 | l,m,[],_,h=>by cases m <;> simp [Lib.compareBytes] at h
 | [],m,c :: k,_,_=>by simp [Lib.compareBytes]
 | a :: l,[],c :: k,h,_=>by simp [Lib.compareBytes] at h
 | a :: l,b :: m,c :: k,h1,h2=>by
  rw [Lib.compareBytes] at h1 h2 ⊢
  simp only [UInt8.lt_iff_toNat_lt] at h1 h2 ⊢
  by_cases g1 : a.toNat < b.toNat
  ·by_cases g2 : c.toNat < b.toNat
   ·rw [if_neg (by omega),if_pos g2] at h2; cases h2
   ·rw [if_pos (by omega)]; decide
  ·by_cases g1' : b.toNat < a.toNat
   ·rw [if_neg g1,if_pos g1'] at h1; cases h1
   ·rw [if_neg g1,if_neg g1'] at h1
    by_cases g2 : b.toNat < c.toNat
    ·rw [if_pos (by omega)]; decide
    ·by_cases g3 : c.toNat < b.toNat
     ·rw [if_neg g2,if_pos g3] at h2; cases h2
     ·rw [if_neg g2,if_neg g3] at h2
      rw [if_neg (by omega),if_neg (by omega)]
      exact NO l m k h1 h2
def cB (s t : ByteArray) : Int:=Lib.compareBytes s.data.toList t.data.toList
theorem Te (s : ByteArray) : cB s s = 0:=QZ _
theorem MC {s t : ByteArray} (h : cB s t = 0) : s = t:=by
 have:=RA _ _ h
 cases s; cases t
 simpa using this
theorem cB_rng (s t : ByteArray) : cB s t = -1 ∨ cB s t = 0 ∨ cB s t = 1:=UU _ _
theorem MD (s t : ByteArray) : cB t s = - cB s t:=RB _ _
theorem BY {s t u : ByteArray} (h1 : cB s t < 0) (h2 : cB t u < 0) : cB s u < 0:=NO _ _ _ h1 h2
theorem FD : ∀ l m : List UInt8,Op.bytesLess l m = decide (Lib.compareBytes l m < 0)
 | [],[]=>rfl
 | [],_ :: _=>rfl
 | _ :: _,[]=>rfl
 | a :: l,b :: m=>by
  rw [Op.bytesLess,Lib.compareBytes]
  simp only [UInt8.lt_iff_toNat_lt]
  by_cases h1 : a.toNat < b.toNat
  ·simp [h1]
  ·by_cases h2 : b.toNat < a.toNat
   ·have : a ≠ b:=by rintro rfl; omega
    simp [h1,h2,this]
   ·have : a = b:=UInt8.toNat_inj.1 (by omega)
    simp [this,FD l m]
theorem UV (s t : ByteArray) : EE s t = decide (cB s t < 0):=by
 unfold EE cB
 rw [FD,ByteArray.toList_eq,ByteArray.toList_eq]
end Go.Proofs.YtfcmmengcdebnaaGreatDoor
/- Deeds: the program's check is the reference's,for a deed and for a list of deeds. No program stands here but its twins. -/
namespace Go.Proofs.YtfcmmengcdebnaaGreatDoor
open Go
structure DG (d : Dk) : Prop where
 no : 1 ≤ d.No ∧ d.No ≤ 1000000
 at_ : 0 ≤ d.At ∧ d.At < 345686400000
 kind : d.Kind = 1 ∨ d.Kind = 2 ∨ d.Kind = 3 ∨ d.Kind = 4
 site : Gf d.Site = some true
 who : d.Kind ≠ 4 → Gf d.Who = some true ∧ Gf d.Race = some true
 club : d.Kind = 1 → d.Club = An ∨ Gf d.Club = some true
 time : d.Kind = 1 ∨ d.Kind = 3 → 0 ≤ d.Time ∧ d.Time ≤ 360000
 fault : d.Kind = 3 → 0 ≤ d.Fault ∧ d.Fault ≤ 8
 of_ : d.Kind = 4 → Gf d.Of = some true ∧ 1 ≤ d.Other ∧ d.Other ≤ 1000000
 form : d = if d.Kind = 1 then Dk.mk d.Site d.No d.At d.Kind d.Who d.Club d.Race d.Time 0 An 0 else
  if d.Kind = 3 then Dk.mk d.Site d.No d.At d.Kind d.Who An d.Race d.Time d.Fault An 0 else
  if d.Kind = 4 then Dk.mk d.Site d.No d.At d.Kind An An An 0 0 d.Of d.Other else Dk.mk d.Site d.No d.At d.Kind d.Who An d.Race 0 0 An 0
theorem inW {n l h : Int} : Dv n l h = true ↔ l ≤ n ∧ n ≤ h:=by unfold Dv; simp
theorem TF (d : Dk) : ∃ e,Qk d = some e ∧ Qj d = some e ∧ (e = 0 → DG d):=by
 obtain ⟨kS,s1,s2⟩:=Wa d.Site
 obtain ⟨kW,w1,w2⟩:=Wa d.Who
 obtain ⟨kR,r1,r2⟩:=Wa d.Race
 obtain ⟨kC,c1,c2⟩:=Wa d.Club
 obtain ⟨kO,o1,o2⟩:=Wa d.Of
 have hw : Kh = Dv:=rfl
 have hm : Pk d.At = Hz d.At:=by
  unfold Pk Kh Hz
  congr 1
  exact decide_eq_decide.2 (by omega)
 unfold Qk Qj
 simp only [s1,s2,w1,w2,r1,r2,c1,c2,o1,o2,hw,hm,Jc,Option.bind_some]
 cases kS with
 | false=>exact ⟨5,by simp,by simp,fun h=>by cases h⟩
 | true =>
  simp only [Bool.not_true,Bool.false_eq_true,if_false]
  by_cases hA : (!Dv d.No 1 1000000 || !Hz d.At) = true
  ·rw [if_pos hA,if_pos hA]; exact ⟨1,rfl,rfl,fun h=>by cases h⟩
  ·rw [if_neg hA,if_neg hA]
   simp only [Bool.or_eq_true,not_or,Bool.not_eq_true,Bool.not_eq_false'] at hA
   have hno:=inW.1 hA.1
   have hat : 0 ≤ d.At ∧ d.At < 345686400000:=by have:=hA.2; unfold Hz at this; simpa using this
   by_cases hK : (!Dv d.Kind 1 4) = true
   ·rw [if_pos hK,if_pos hK]; exact ⟨4,rfl,rfl,fun h=>by cases h⟩
   ·rw [if_neg hK,if_neg hK]
    have hk4 : d.Kind = 1 ∨ d.Kind = 2 ∨ d.Kind = 3 ∨ d.Kind = 4:=by
     have:=inW.1 (by simpa using hK : Dv d.Kind 1 4 = true)
     omega
    rcases hk4 with hk | hk | hk | hk
    ·simp only [hk,show decide ((1 : Int) = 1) = true from rfl,show decide ((1 : Int) = 3) = false from rfl,show decide ((1 : Int) = 4) = false from rfl]
     cases kW <;> cases kR <;> cases kC <;> cases hc : decide (d.Club = An) <;> cases ht : Dv d.Time 0 360000 <;> cases hf : decide (d = Dk.mk d.Site d.No d.At 1 d.Who d.Club d.Race d.Time 0 An 0) <;> (try simp only [decide_true,decide_false,Bool.not_true,Bool.not_false,Bool.true_and,Bool.false_and,Bool.and_true,Bool.and_false,Bool.or_false,Bool.false_or,Bool.true_or,Bool.or_true,Bool.and_self,Bool.or_self,if_true,Bool.false_eq_true,if_false]) <;>
      first | exact ⟨5,rfl,rfl,fun h=>by cases h⟩ | exact ⟨1,rfl,rfl,fun h=>by cases h⟩ | exact ⟨3,rfl,rfl,fun h=>by cases h⟩ |
       exact ⟨0,rfl,rfl,fun _=>⟨hno,hat,by omega,s1,fun _=>⟨w1,r1⟩,fun _=>by first | exact .inl (of_decide_eq_true hc) | exact .inr c1,fun _=>inW.1 ht,fun h=>by omega,fun h=>by omega,by rw [if_pos hk,hk]; exact of_decide_eq_true hf⟩⟩
    ·simp only [hk,show decide ((2 : Int) = 1) = false from rfl,show decide ((2 : Int) = 3) = false from rfl,show decide ((2 : Int) = 4) = false from rfl]
     cases kW <;> cases kR <;> cases hf : decide (d = Dk.mk d.Site d.No d.At 2 d.Who An d.Race 0 0 An 0) <;> (try simp only [decide_true,decide_false,Bool.not_true,Bool.not_false,Bool.true_and,Bool.false_and,Bool.and_true,Bool.and_false,Bool.or_false,Bool.false_or,Bool.true_or,Bool.or_true,Bool.and_self,Bool.or_self,if_true,Bool.false_eq_true,if_false]) <;>
      first | exact ⟨5,rfl,rfl,fun h=>by cases h⟩ | exact ⟨1,rfl,rfl,fun h=>by cases h⟩ | exact ⟨3,rfl,rfl,fun h=>by cases h⟩ |
       exact ⟨0,rfl,rfl,fun _=>⟨hno,hat,by omega,s1,fun _=>⟨w1,r1⟩,fun h=>by omega,fun h=>by omega,fun h=>by omega,fun h=>by omega,by rw [if_neg (by omega),if_neg (by omega),if_neg (by omega),hk]; exact of_decide_eq_true hf⟩⟩
    ·simp only [hk,show decide ((3 : Int) = 1) = false from rfl,show decide ((3 : Int) = 3) = true from rfl,show decide ((3 : Int) = 4) = false from rfl]
     cases kW <;> cases kR <;> cases ht : Dv d.Time 0 360000 <;> cases hu : Dv d.Fault 0 8 <;> cases hf : decide (d = Dk.mk d.Site d.No d.At 3 d.Who An d.Race d.Time d.Fault An 0) <;> (try simp only [decide_true,decide_false,Bool.not_true,Bool.not_false,Bool.true_and,Bool.false_and,Bool.and_true,Bool.and_false,Bool.or_false,Bool.false_or,Bool.true_or,Bool.or_true,Bool.and_self,Bool.or_self,if_true,Bool.false_eq_true,if_false]) <;>
      first | exact ⟨5,rfl,rfl,fun h=>by cases h⟩ | exact ⟨1,rfl,rfl,fun h=>by cases h⟩ | exact ⟨3,rfl,rfl,fun h=>by cases h⟩ |
       exact ⟨0,rfl,rfl,fun _=>⟨hno,hat,by omega,s1,fun _=>⟨w1,r1⟩,fun h=>by omega,fun _=>inW.1 ht,fun _=>inW.1 hu,fun h=>by omega,by rw [if_neg (by omega),if_pos hk,hk]; exact of_decide_eq_true hf⟩⟩
    ·simp only [hk,show decide ((4 : Int) = 1) = false from rfl,show decide ((4 : Int) = 3) = false from rfl,show decide ((4 : Int) = 4) = true from rfl]
     cases kO <;> cases ho : Dv d.Other 1 1000000 <;> cases hf : decide (d = Dk.mk d.Site d.No d.At 4 An An An 0 0 d.Of d.Other) <;> (try simp only [decide_true,decide_false,Bool.not_true,Bool.not_false,Bool.true_and,Bool.false_and,Bool.and_true,Bool.and_false,Bool.or_false,Bool.false_or,Bool.true_or,Bool.or_true,Bool.and_self,Bool.or_self,if_true,Bool.false_eq_true,if_false]) <;>
      first | exact ⟨5,rfl,rfl,fun h=>by cases h⟩ | exact ⟨1,rfl,rfl,fun h=>by cases h⟩ | exact ⟨3,rfl,rfl,fun h=>by cases h⟩ |
       exact ⟨0,rfl,rfl,fun _=>⟨hno,hat,by omega,s1,fun h=>absurd hk h,fun h=>by omega,fun h=>by omega,fun h=>by omega,fun _=>⟨o1,inW.1 ho⟩,by rw [if_neg (by omega),if_neg (by omega),if_pos hk,hk]; exact of_decide_eq_true hf⟩⟩
theorem IM (y : Dk) : ∀ (l : List Dk) (i : Nat),decide (0 ≤ Ew y (-1) l i) = decide (Fd y ∈ l.map Fd)
 | [],i=>by simp [Ew]
 | z :: l,i=>by
  have ih:=IM y l (i + 1)
  rw [Ew]
  have hp : Oi z y = decide (Fd y = Fd z):=by
   unfold Oi Ut Fd
   rw [Bool.eq_iff_iff]
   simp only [Bool.and_eq_true,decide_eq_true_eq,Eo.mk.injEq]
   exact ⟨fun h=>⟨h.1.symm,h.2.symm⟩,fun h=>⟨h.1.symm,h.2.symm⟩⟩
  rw [hp]
  by_cases h : Fd y = Fd z
  ·rw [if_pos (decide_eq_true h),decide_eq_true (show 0 ≤ (i : Int) by omega),decide_eq_true (by simp [h])]
  ·rw [if_neg (by simpa using h),ih]
   exact decide_eq_decide.2 (by simp [h])
theorem KS (l : List Dk) : ∀ (ys dn : List Dk),l = dn ++ ys → (dn.map Fd).Nodup → Ip l (some 0) ys dn.length = some (if (l.map Fd).Nodup then 0 else 6)
 | [],dn,h,hd=>by
  rw [List.append_nil] at h
  subst h
  rw [if_pos hd]; rfl
 | y :: ys,dn,h,hd=>by
  have hlen : l.length = dn.length + (ys.length + 1):=by rw [h]; simp
  rw [Ip,Fx (Uz.2 (by omega))]
  have hc : cut l 0 (dn.length : Int) = dn:=by unfold cut; rw [h]; simp
  have hq : Iy dn y = decide (Fd y ∈ dn.map Fd):=IM y dn 0
  rw [hc,hq]
  by_cases hm : Fd y ∈ dn.map Fd
  ·rw [if_pos (decide_eq_true hm),if_neg]
   intro hn
   rw [h,List.map_append,List.nodup_append] at hn
   exact hn.2.2 _ hm _ (by simp) rfl
  ·rw [if_neg (by simpa using hm)]
   have ih:=KS l ys (dn ++ [y]) (by rw [h]; simp) (by
    rw [List.map_append,List.nodup_append]
    refine ⟨hd,by simp,?_⟩
    intro a ha b hb
    simp only [List.map_cons,List.map_nil,List.mem_singleton] at hb
    subst hb
    exact fun e=>hm (e ▸ ha))
   rwa [List.length_append] at ih
theorem cmpID (x y : Int) : Kc x y = if x < y then -1 else if y < x then 1 else 0:=by
 unfold Kc Su
 simp
theorem orD3 (a b c : Int) : Tl [a,b,c] = if a ≠ 0 then a else if b ≠ 0 then b else c:=by
 unfold Tl
 simp only [Jc,Mi]
 by_cases h1 : a = 0
 ·by_cases h2 : b = 0
  ·by_cases h3 : c = 0 <;> simp [h1,h2,h3]
  ·simp [h1,h2]
 ·simp [h1]
theorem NP (p q : Dk) : Nb p q = if p.At < q.At then -1 else if q.At < p.At then 1 else if cB p.Site q.Site ≠ 0 then cB p.Site q.Site else if p.No < q.No then -1 else if q.No < p.No then 1 else 0:=by
 unfold Nb
 rw [orD3,cmpID,cmpID]
 have hc : Hp p.Site q.Site = cB p.Site q.Site:=rfl
 rw [hc]
 by_cases h1 : p.At < q.At
 ·simp [h1]
 ·by_cases h2 : q.At < p.At
  ·simp [h1,h2]
  ·simp [h1,h2]
theorem orderD (p q : Dk) (hp : DG p) (hq : DG q) : Jn p q = Nb p q:=by
 rw [NP]
 have a1:=hp.no
 have a2:=hp.at_
 have b1:=hq.no
 have b2:=hq.at_
 unfold Jn Ul
 have hc : Hp p.Site q.Site = cB p.Site q.Site:=rfl
 have hW1 : W (p.At - q.At) = p.At - q.At:=Nu (by omega) (by omega)
 have hW2 : W (p.No - q.No) = p.No - q.No:=Nu (by omega) (by omega)
 rw [hc,hW1,hW2]
 simp only [decide_eq_true_eq,Bool.not_eq_true',decide_eq_false_iff_not]
 by_cases h1 : p.At = q.At
 ·rw [if_neg (fun h=>h h1),if_neg (show ¬ p.At < q.At by omega),if_neg (show ¬ q.At < p.At by omega)]
  by_cases h2 : p.Site = q.Site
  ·simp only [h2,Te,not_true_eq_false,if_false,ne_eq]
   split <;> split <;> (try split) <;> (try split) <;> omega
  ·rw [if_pos h2,if_pos (fun e=>h2 (MC e))]
 ·rw [if_pos h1]
  split <;> split <;> (try split) <;> (try split) <;> omega
abbrev PE (l : List Dk) : Prop:=∀ d x y r,l = d ++ x :: y :: r → Nb x y < 0
theorem UW (l : List Dk) (hl : l.length ≤ 1000000) (j : List (Eo × Bool) → Bool → Option Int) (j' : Option Int) : ∀ (ys dn : List Dk) (m : List (Eo × Bool)) (t : Bool),l = dn ++ ys → (∀ x ∈ dn,DG x) →
  (∀ e,Ea m e false = decide (e ∈ dn.map Fd)) → t = decide (¬ (dn.map Fd).Nodup) → (∀ d x y r,dn = d ++ x :: y :: r → Nb x y < 0) →
  (∃ e,e ≠ 0 ∧ Ib l j ys dn.length m t = some e ∧ Hy l j' ys dn.length = some e) ∨
  (∃ m',Ib l j ys dn.length m t = j m' (decide (¬ (l.map Fd).Nodup)) ∧ Hy l j' ys dn.length = j' ∧ (∀ x ∈ l,DG x) ∧ PE l)
 | [],dn,m,t,h,hg,hm,ht,ha=>by
  rw [List.append_nil] at h
  subst h
  exact .inr ⟨m,by rw [Ib,ht],rfl,hg,ha⟩
 | y :: ys,dn,m,t,h,hg,hm,ht,ha=>by
  have hlen : l.length = dn.length + (ys.length + 1):=by rw [h]; simp
  obtain ⟨e,e1,e2,e3⟩:=TF y
  rw [Ib,Hy,e1,e2]
  simp only [Option.bind_some,Jc]
  by_cases he : e = 0
  ·subst he
   have hy:=e3 rfl
   simp only [decide_true,Bool.not_true,Bool.false_eq_true,if_false]
   have go : (∀ d x,dn = d ++ [x] → Nb x y < 0) →
     (∃ e,e ≠ 0 ∧ Ib l j ys (dn.length + 1) (Gl m (Fd y) true) (t || Ea m (Fd y) false) = some e ∧ Hy l j' ys (dn.length + 1) = some e) ∨
     (∃ m',Ib l j ys (dn.length + 1) (Gl m (Fd y) true) (t || Ea m (Fd y) false) = j m' (decide (¬ (l.map Fd).Nodup)) ∧ Hy l j' ys (dn.length + 1) = j' ∧ (∀ x ∈ l,DG x) ∧ PE l):=fun hadj=>by
    have:=UW l hl j j' ys (dn ++ [y]) (Gl m (Fd y) true) (t || Ea m (Fd y) false) (by rw [h]; simp) (fun x hx=>by
     rcases List.mem_append.1 hx with hx | hx
     ·exact hg x hx
     ·obtain rfl:=List.mem_singleton.1 hx; exact hy) (fun e=>by
     rw [Wt,hm e]
     by_cases h1 : e = Fd y
     ·rw [if_pos h1]; exact (decide_eq_true (by simp [h1])).symm
     ·rw [if_neg h1]; exact decide_eq_decide.2 (by simp [h1])) (by
     rw [ht,hm,Bool.eq_iff_iff]
     simp only [Bool.or_eq_true,decide_eq_true_eq,List.map_append,List.map_cons,List.map_nil,List.nodup_append]
     constructor
     ·rintro (h1 | h1) h2
      ·exact h1 h2.1
      ·exact h2.2.2 _ h1 _ (by simp) rfl
     ·intro h1
      by_cases h2 : (dn.map Fd).Nodup
      ·refine .inr (Classical.byContradiction fun h3=>h1 ⟨h2,by simp,fun a ha b hb=>?_⟩)
       obtain rfl:=List.mem_singleton.1 hb
       exact fun e=>h3 (e ▸ ha)
      ·exact .inl h2) (fun d x z r hd=>by
     rcases List.eq_nil_or_concat r with rfl | ⟨r',b,rfl⟩
     ·have h1 : dn ++ [y] = (d ++ [x]) ++ [z]:=by rw [hd]; simp
      obtain ⟨h2,h3⟩:=List.append_inj' h1 rfl
      obtain rfl:=(List.cons.inj h3).1
      exact hadj d x h2
     ·have h1 : dn ++ [y] = (d ++ x :: z :: r') ++ [b]:=by rw [hd]; simp
      exact ha d x z r' (List.append_inj' h1 rfl).1)
    rwa [List.length_append,List.length_singleton] at this
   by_cases h0 : (0 : Int) < (dn.length : Int)
   ·obtain ⟨d,x,hdx⟩ : ∃ d x,dn = d ++ [x]:=by
     rcases List.eq_nil_or_concat dn with h1 | ⟨d,x,h1⟩
     ·rw [h1] at h0; simp at h0
     ·exact ⟨d,x,by rw [h1]; simp⟩
    have hdl : dn.length = d.length + 1:=by rw [hdx]; simp
    have hw : W ((dn.length : Int) - 1) = (d.length : Int):=by rw [Nu (by omega) (by omega)]; omega
    have hn : nth l (d.length : Int) = x:=by rw [h,hdx]; unfold nth; simp
    have hx:=hg x (by rw [hdx]; simp)
    simp only [h0,decide_true,if_true,hw,Fx (show inB (d.length : Int) l.length = true from Jf.2 (by omega)),hn,orderD x y hx hy]
    by_cases hc : 0 ≤ Nb x y
    ·rw [if_pos (decide_eq_true hc),if_pos (decide_eq_true hc)]
     exact .inl ⟨7,by decide,rfl,rfl⟩
    ·rw [if_neg (by simpa using hc),if_neg (by simpa using hc)]
     refine go fun d' x' h'=>?_
     rw [hdx] at h'
     obtain ⟨_,h3⟩:=List.append_inj' h' rfl
     obtain rfl:=(List.cons.inj h3).1
     omega
   ·simp only [h0,decide_false,Bool.false_eq_true,if_false]
    refine go fun d' x' h'=>?_
    rw [h'] at h0
    simp at h0
  ·rw [if_pos (by simpa using he),if_pos (by simpa using he)]
   exact .inl ⟨e,he,rfl,rfl⟩
structure DsG (l : List Dk) : Prop where
 len : l.length ≤ 2000
 each : ∀ x ∈ l,DG x
 adj : PE l
 nodup : (l.map Fd).Nodup
theorem PF (l : List Dk) : ∃ e,Pl l = some e ∧ Po l = some e ∧ (e = 0 → DsG l):=by
 unfold Pl Po
 by_cases h : 2000 < (l.length : Int)
 ·rw [if_pos (decide_eq_true h),if_pos (decide_eq_true h)]; exact ⟨2,rfl,rfl,fun h=>by cases h⟩
 ·rw [if_neg (by simpa using h),if_neg (by simpa using h)]
  simp only [Jc]
  have h2:=KS l l [] rfl List.nodup_nil
  rcases UW l (by omega) (fun x1 x2=>if x2 then some 6 else some 0) (Ip l (some 0) l 0) l [] [] false rfl (by simp) (fun e=>by simp [Ea,Qy,Oc]) (by simp) (by simp) with ⟨e,he,q1,q2⟩ | ⟨m',q1,q2,q3,q4⟩
  ·exact ⟨e,q1,q2,fun h=>absurd h he⟩
  ·rw [show ([] : List Dk).length = 0 from rfl] at q1 q2 h2
   rw [q1,q2,h2]
   by_cases hn : (l.map Fd).Nodup
   ·exact ⟨0,by simp [hn],by simp [hn],fun _=>⟨by omega,q3,q4,hn⟩⟩
   ·exact ⟨6,by simp [hn],by simp [hn],fun h=>by cases h⟩
end Go.Proofs.YtfcmmengcdebnaaGreatDoor
/- Sorting,striking and thinning out,to the element. No program stands here. -/
namespace Go.Proofs.YtfcmmengcdebnaaGreatDoor
open Go
section
variable {α : Type}
theorem KT {lt : α → α → Bool} (ht : ∀ x y z,lt x y = true → lt y z = true → lt x z = true) (x : α) : ∀ rp : List α,rp.Pairwise (fun a b=>lt b a = true) → (∀ y ∈ rp,lt x y = false → lt y x = true) → (Ua lt x rp).Pairwise fun a b=>lt b a = true
 | [],_,_=>by simp [Ua]
 | y :: r,h,hx=>by
  rw [List.pairwise_cons] at h
  unfold Ua
  cases hxy : lt x y with
  | true =>
   rw [if_pos rfl]
   refine List.pairwise_cons.2 ⟨fun z hz=>?_,KT ht x r h.2 fun z hz=>hx z (List.mem_cons_of_mem _ hz)⟩
   rcases (Zj lt x z r).1 hz with rfl | hz
   ·exact hxy
   ·exact h.1 z hz
  | false =>
   rw [if_neg (by simp)]
   have h1:=hx y (by simp) hxy
   refine List.pairwise_cons.2 ⟨fun z hz=>?_,List.pairwise_cons.2 h⟩
   rcases List.mem_cons.1 hz with rfl | hz
   ·exact h1
   ·exact ht z y x (h.1 z hz) h1
theorem IP {lt : α → α → Bool} (ht : ∀ x y z,lt x y = true → lt y z = true → lt x z = true) : ∀ l rp : List α,rp.Pairwise (fun a b=>lt b a = true) → (∀ x ∈ l,∀ y ∈ rp,lt x y = false → lt y x = true) → l.Pairwise (fun a b=>lt b a = false → lt a b = true) →
  (Ux lt l rp).Pairwise fun a b=>lt b a = true
 | [],rp,h,_,_=>h
 | x :: l,rp,h,h1,h2=>by
  rw [List.pairwise_cons] at h2
  show (Ux lt l (Ua lt x rp)).Pairwise _
  refine IP ht l _ (KT ht x rp h (h1 x (by simp))) (fun z hz y hy=>?_) h2.2
  rcases (Zj lt x y rp).1 hy with rfl | hy
  ·exact h2.1 z hz
  ·exact h1 z (List.mem_cons_of_mem _ hz) y hy
theorem CN {lt : α → α → Bool} (ht : ∀ x y z,lt x y = true → lt y z = true → lt x z = true) (l : List α) (h : l.Pairwise fun a b=>lt b a = false → lt a b = true) : (Qp lt l).Pairwise fun a b=>lt a b = true:=by
 unfold Qp
 rw [List.pairwise_reverse]
 exact IP ht l [] List.Pairwise.nil (fun _ _ _ h=>by cases h) h
theorem Xt (lt : α → α → Bool) (l : List α) (z : α) : z ∈ Qp lt l ↔ z ∈ l:=by
 unfold Qp
 rw [List.mem_reverse,KR]
 simp
theorem RC {lt : α → α → Bool} (hi : ∀ x,lt x x = false) (ht : ∀ x y z,lt x y = true → lt y z = true → lt x z = true) : ∀ A B : List α,A.Pairwise (fun a b=>lt a b = true) → B.Pairwise (fun a b=>lt a b = true) → (∀ x,x ∈ A ↔ x ∈ B) → A = B
 | [],[],_,_,_=>rfl
 | [],b :: B,_,_,h=>by have:=(h b).2 (by simp); cases this
 | a :: A,[],_,_,h=>by have:=(h a).1 (by simp); cases this
 | a :: A,b :: B,hA,hB,h=>by
  rw [List.pairwise_cons] at hA hB
  have hab : a = b:=by
   rcases List.mem_cons.1 ((h a).1 (by simp)) with e | h1
   ·exact e
   ·rcases List.mem_cons.1 ((h b).2 (by simp)) with e | h2
    ·exact e.symm
    ·have:=ht a b a (hA.1 b h2) (hB.1 a h1)
     rw [hi] at this
     cases this
  subst hab
  have : A = B:=RC hi ht A B hA.2 hB.2 fun x=>by
   have hx:=h x
   constructor
   ·intro hm
    rcases List.mem_cons.1 (hx.1 (List.mem_cons_of_mem _ hm)) with rfl | h3
    ·have:=hA.1 x hm; rw [hi] at this; cases this
    ·exact h3
   ·intro hm
    rcases List.mem_cons.1 (hx.2 (List.mem_cons_of_mem _ hm)) with rfl | h3
    ·have:=hB.1 x hm; rw [hi] at this; cases this
    ·exact h3
  rw [this]
theorem IQ (lt : α → α → Bool) : ∀ l rp : List α,(Ux lt l rp).length = l.length + rp.length
 | [],rp=>by simp [Ux]
 | x :: l,rp=>by
  show (Ux lt l (Ua lt x rp)).length = _
  rw [IQ lt l,BX]
  simp only [List.length_cons]
  omega
theorem Yc (lt : α → α → Bool) (l : List α) : (Qp lt l).length = l.length:=by
 unfold Qp
 rw [List.length_reverse,IQ]
 simp
theorem NQ {lt : α → α → Bool} (hi : ∀ x,lt x x = false) (ht : ∀ x y z,lt x y = true → lt y z = true → lt x z = true) (A B : List α) (h : A.Pairwise fun a b=>lt b a = false → lt a b = true) (hB : B.Pairwise fun a b=>lt a b = true) (hm : ∀ x,x ∈ A ↔ x ∈ B) : Qp lt A = B :=
 RC hi ht _ _ (CN ht A h) hB fun x=>by rw [Xt,hm]
theorem DZ {lt lt' : α → α → Bool} (x : α) : ∀ rp : List α,(∀ y ∈ rp,lt x y = lt' x y) → Ua lt x rp = Ua lt' x rp
 | [],_=>rfl
 | y :: r,h=>by
  unfold Ua
  rw [h y (by simp),DZ x r fun z hz=>h z (List.mem_cons_of_mem _ hz)]
theorem GO {lt lt' : α → α → Bool} : ∀ l rp : List α,(∀ x ∈ l,∀ y,y ∈ l ∨ y ∈ rp → lt x y = lt' x y) → Ux lt l rp = Ux lt' l rp
 | [],_,_=>rfl
 | x :: l,rp,h=>by
  show Ux lt l (Ua lt x rp) = Ux lt' l (Ua lt' x rp)
  rw [DZ x rp fun y hy=>h x (by simp) y (.inr hy)]
  refine GO l _ fun z hz y hy=>h z (List.mem_cons_of_mem _ hz) y ?_
  rcases hy with hy | hy
  ·exact .inl (List.mem_cons_of_mem _ hy)
  ·rcases (Zj lt' x y rp).1 hy with rfl | hy
   ·exact .inl (by simp)
   ·exact .inr hy
theorem GP {lt lt' : α → α → Bool} (l : List α) (h : ∀ x ∈ l,∀ y ∈ l,lt x y = lt' x y) : Qp lt l = Qp lt' l:=by
 unfold Qp
 rw [GO l [] fun x hx y hy=>h x hx y (by rcases hy with hy | hy; exact hy; cases hy)]
theorem KU (lt : α → α → Bool) (x : α) : ∀ rp : List α,(Ua lt x rp).Perm (x :: rp)
 | []=>List.Perm.refl _
 | y :: r=>by
  unfold Ua
  split
  ·exact ((KU lt x r).cons y).trans (List.Perm.swap x y r)
  ·exact List.Perm.refl _
theorem IR (lt : α → α → Bool) : ∀ l rp : List α,(Ux lt l rp).Perm (l ++ rp)
 | [],_=>List.Perm.refl _
 | x :: l,rp=>(IR lt l (Ua lt x rp)).trans (((KU lt x rp).append_left l).trans List.perm_middle)
theorem PG (lt : α → α → Bool) (l : List α) : (Qp lt l).Perm l:=by
 have h:=IR lt l []
 rw [List.append_nil] at h
 exact (List.reverse_perm _).trans h
def nbF [DecidableEq α] (p : α) : List α → List α
 | []=>[]
 | y :: r=>if y = p then nbF y r else y :: nbF y r
def nb [DecidableEq α] : List α → List α
 | []=>[]
 | x :: r=>x :: nbF x r
variable {R : Type} [Inhabited α]
end
end Go.Proofs.YtfcmmengcdebnaaGreatDoor
/- The stream of choices goes on: each drawing gives something and moves the place by a little. Conditions: the place is not far. -/
namespace Go.Proofs.YtfcmmengcdebnaaGreatDoor
open Go
def Dr {α : Type} (a k : Int) (Q : α → Prop) (o : Option (α × Int)) : Prop:=∃ v b,o = some (v,b) ∧ a ≤ b ∧ b ≤ a + k ∧ Q v
abbrev FE (L : List Int) : Prop:=(L.length : Int) ≤ 9223372036854775807
section
variable {L : List Int} (hL : FE L) {a : Int} (h0 : 0 ≤ a) (h1 : a ≤ 1000000000000)
include hL h0 h1
theorem next_dr (n : Int) (hn : n ≤ 4611686018427387904) : Dr a 1 (fun v=>0 ≤ v ∧ (v < n ∨ (n < 1 ∧ v = 0))) (Pv L a n):=by
 obtain ⟨v,e,g⟩:=CM L a n h0 (by omega) hL hn
 exact ⟨v,a + 1,e,by omega,by omega,g⟩
theorem Rv (l : List Int) (hl : 0 < l.length) (hl' : l.length ≤ 1000) : Dr a 1 (fun v=>v ∈ l) (Jp L a l):=by
 obtain ⟨v,e,g⟩:=QW L a l h0 (by omega) hL hl hl'
 exact ⟨v,a + 1,e,by omega,by omega,g⟩
theorem RD (n : Int) (hn : n ≤ 4611686018427387904) : Dr a 1 (fun _=>True) (Sf L a n):=by
 obtain ⟨v,e⟩:=QX L a n h0 (by omega) hL hn
 exact ⟨v,a + 1,e,by omega,by omega,trivial⟩
theorem Xq (l : List ByteArray) (hl : 0 < l.length) (hl' : l.length ≤ 1000) : Dr a 1 (fun v=>v ∈ l) (Nv L a l):=by
 obtain ⟨v,e1,h1,h2⟩:=CM L a (l.length : Int) h0 (by omega) hL (by omega)
 have hc : inB v l.length = true:=Jf.2 ⟨h1,by omega⟩
 unfold Nv
 rw [e1]
 simp only [Option.bind_some]
 rw [Fx hc]
 exact ⟨nth l v,a + 1,rfl,by omega,by omega,List.mem_of_getElem? (Dx hc).1⟩
theorem Zk (low high : Int) (h2 : -1000000000000 ≤ low) (h3 : low ≤ 1000000000000) (h4 : high ≤ 1000000000000) : Dr a 1 (fun v=>low ≤ v ∧ (v ≤ high ∨ v = low)) (Nq L a low high):=by
 unfold Nq
 by_cases h : high < low
 ·exact ⟨low,a,by simp [h],by omega,by omega,by omega,.inr rfl⟩
 ·have w1 : W (high - low) = high - low:=Nu (by omega) (by omega)
  have w2 : W (high - low + 1) = high - low + 1:=Nu (by omega) (by omega)
  obtain ⟨v,e,g1,g2⟩:=CM L a (high - low + 1) h0 (by omega) hL (by omega)
  rw [if_neg (by simpa using h),w1,w2,e]
  have w3 : W (low + v) = low + v:=Nu (by omega) (by omega)
  exact ⟨_,_,rfl,by show a ≤ a + 1; omega,by show a + 1 ≤ a + 1; omega,by simp only [w3]; omega⟩
theorem IS (low high : Int) (h2 : -1000000000000 ≤ low) (h3 : low ≤ 1000000000000) (h4 : high ≤ 1000000000000) : Dr a 2 (fun _=>True) (Sg L a low high):=by
 obtain ⟨b,e1⟩:=QX L a 12 h0 (by omega) hL (by omega)
 unfold Sg
 rw [e1]
 simp only [Option.bind_some]
 cases b with
 | true =>
  obtain ⟨v,e,_⟩:=QW L (a + 1) [W (low - 1),W (high + 1),low,high,(-1099511627776),1099511627776] (by omega) (by omega) hL (by simp) (by simp)
  rw [if_pos rfl,e]
  exact ⟨_,_,rfl,by show a ≤ a + 1 + 1; omega,by show a + 1 + 1 ≤ a + 2; omega,trivial⟩
 | false =>
  unfold Nq
  by_cases h : high < low
  ·rw [if_neg (by simp),if_pos (by simpa using h)]
   exact ⟨_,_,rfl,by show a ≤ a + 1; omega,by show a + 1 ≤ a + 2; omega,trivial⟩
  ·have w1 : W (high - low) = high - low:=Nu (by omega) (by omega)
   have w2 : W (high - low + 1) = high - low + 1:=Nu (by omega) (by omega)
   obtain ⟨v,e,g1,g2⟩:=CM L (a + 1) (high - low + 1) (by omega) (by omega) hL (by omega)
   rw [if_neg (by simp),if_neg (by simpa using h),w1,w2,e]
   exact ⟨_,_,rfl,by show a ≤ a + 1 + 1; omega,by show a + 1 + 1 ≤ a + 2; omega,trivial⟩
end
end Go.Proofs.YtfcmmengcdebnaaGreatDoor
/- Deeds that are sorted and merged. No program stands here but its twins. -/
namespace Go.Proofs.YtfcmmengcdebnaaGreatDoor
open Go
def ltD (x y : Dk) : Bool:=decide (Nb x y < 0)
theorem len_d : ∀ n : Fin 13,(EL (IntKind.wrap .u64 (n.val : Int))).isSome = true:=by decide +kernel
def ltR (x y : Dk) : Bool:=decide (Jn x y < 0)
theorem PH (l : List Dk) (hl : l.length ≤ 19) : Hr l = some (Qp ltR l):=by
 have hs : Ha l 0 (l.length : Int) = some (Qp ltR l):=by
  unfold Ha
  simp only [On]
  have hins : ∀ (k : List Dk → Option (List Dk)) (rp : List Dk) (x : Dk) (post : List Dk),((rp ++ x :: post).length : Int) = (l.length : Int) → (∀ y,y ∈ rp ∨ y = x ∨ y ∈ post → y ∈ (rp ++ x :: post)) →
    Eh 0 k (((rp.length : Int) - 0).toNat + 2) (rp.reverse ++ x :: post) (rp.length : Int) = k ((Ua ltR x rp).reverse ++ post):=by
   intro k rp x post h1 _
   exact NN (fun x y k=>k (ltR x y)) ltR k (Eh 0 k) (fun _ _ _=>rfl) rp x post _ (by omega) (by simp at h1; omega) fun y _ k'=>rfl
  cases l with
  | nil=>rfl
  | cons x l =>
   have hw : W (0 + 1) = (([x] : List Dk).length : Int):=rfl
   rw [hw]
   exact FC ltR (fun x=>some x) (fun k x i=>Eh 0 k ((i - 0).toNat + 2) x i) (Ey ((x :: l).length : Int) 0 fun x=>some x) ((x :: l).length : Int) (fun _ _ _=>rfl)
    (fun k rp x post h1 h2=>hins k rp x post h1 h2) l [x] _ (by simp only [List.length_cons,List.length_nil]; omega) (by simp only [List.length_cons,List.length_nil]; omega) (by simp only [List.length_cons,List.length_nil] at hl ⊢; omega)
 unfold Hr Ji
 simp only [On]
 rw [Ft,if_neg (by simp; omega),hs]
 simp only [Option.bind_some]
 rw [Fu,if_neg (by simp; omega)]
 rfl
theorem ltD_iff (p q : Dk) : ltD p q = true ↔ p.At < q.At ∨ (p.At = q.At ∧ (cB p.Site q.Site < 0 ∨ (p.Site = q.Site ∧ p.No < q.No))):=by
 unfold ltD
 rw [decide_eq_true_eq,NP]
 rcases cB_rng p.Site q.Site with h | h | h
 ·have hne : p.Site ≠ q.Site:=fun e=>by rw [e,Te] at h; omega
  simp only [h,hne,false_and,or_false]
  split <;> (try split) <;> (try split) <;> omega
 ·have he : p.Site = q.Site:=MC h
  simp only [he,Te,true_and,ne_eq,not_true_eq_false,if_false,Int.lt_irrefl,false_or]
  split <;> (try split) <;> (try split) <;> (try split) <;> omega
 ·have hne : p.Site ≠ q.Site:=fun e=>by rw [e,Te] at h; omega
  simp only [h,hne,false_and,or_false]
  split <;> (try split) <;> (try split) <;> omega
theorem TG (p q r : Dk) (h1 : ltD p q = true) (h2 : ltD q r = true) : ltD p r = true:=by
 rw [ltD_iff] at *
 rcases h1 with h1 | ⟨a1,h1⟩ <;> rcases h2 with h2 | ⟨a2,h2⟩
 ·exact .inl (by omega)
 ·exact .inl (by omega)
 ·exact .inl (by omega)
 ·refine .inr ⟨by omega,?_⟩
  rcases h1 with h1 | ⟨b1,h1⟩ <;> rcases h2 with h2 | ⟨b2,h2⟩
  ·exact .inl (BY h1 h2)
  ·exact .inl (by rw [← b2]; exact h1)
  ·exact .inl (by rw [b1]; exact h2)
  ·exact .inr ⟨b1.trans b2,by omega⟩
theorem PE.up : ∀ {l : List Dk},PE l → l.Pairwise fun a b=>ltD a b = true
 | [],_=>List.Pairwise.nil
 | [x],_=>List.pairwise_singleton _ _
 | x :: y :: l,h=>by
  have h1:=PE.up (l:=y :: l) (fun d p q r e=>h (x :: d) p q r (by rw [e]; rfl))
  have h2 : ltD x y = true:=decide_eq_true (h [] x y l rfl)
  refine List.pairwise_cons.2 ⟨fun z hz=>?_,h1⟩
  rcases List.mem_cons.1 hz with rfl | hz
  ·exact h2
  ·exact TG _ _ _ h2 ((List.pairwise_cons.1 h1).1 z hz)
theorem up_DAdj {l : List Dk} (h : l.Pairwise fun a b=>ltD a b = true) : PE l:=by
 intro d x y r e
 subst e
 have h1:=(List.pairwise_append.1 h).2.1
 exact of_decide_eq_true ((List.pairwise_cons.1 h1).1 y List.mem_cons_self)
end Go.Proofs.YtfcmmengcdebnaaGreatDoor
/- Ranks of right times: judge.Rank. Conditions: few swimmers,in the order of their keys. No program stands here but its twins. -/
namespace Go.Proofs.YtfcmmengcdebnaaGreatDoor
open Go
theorem RE (j : List (ByteArray × Bool) → Bool → Option Int) : ∀ (ys : List Gq) (i : Nat) (m : List (ByteArray × Bool)),(∀ s ∈ ys,Gf s.Who = some true ∧ 0 ≤ s.Time ∧ s.Time ≤ 360000) → (ys.map (·.Who)).Nodup → (∀ s ∈ ys,Ea m s.Who false = false) →
  ∃ m',Kx j ys i m false = j m' false
 | [],i,m,_,_,_=>⟨m,rfl⟩
 | y :: ys,i,m,h1,h2,h3=>by
  obtain ⟨k,t0,t1⟩:=h1 y List.mem_cons_self
  simp only [List.map_cons,List.nodup_cons] at h2
  rw [Kx,k]
  simp only [Option.bind_some,Bool.not_true,Bool.false_eq_true,if_false]
  rw [if_neg (by unfold Dv; simp; omega),h3 y List.mem_cons_self,Bool.or_false]
  exact RE j ys (i + 1) _ (fun s hs=>h1 s (List.mem_cons_of_mem _ hs)) h2.2 (fun s hs=>by
   rw [Wt,if_neg (fun e=>h2.1 (by rw [← e]; exact List.mem_map_of_mem hs))]
   exact h3 s (List.mem_cons_of_mem _ hs))
theorem UX {l : List Gq} (hl : l.length ≤ 300) (h1 : ∀ s ∈ l,Gf s.Who = some true ∧ 0 ≤ s.Time ∧ s.Time ≤ 360000) (h2 : (l.map (·.Who)).Nodup) : So l = some 0:=by
 unfold So
 rw [if_neg (by simp; omega),On]
 obtain ⟨m,e⟩:=RE (fun x1 x2=>if x2 then some 6 else some 0) l 0 [] h1 h2 (fun _ _=>rfl)
 rw [e]
 rfl
theorem behindW {s t : ByteArray} (h : cB s t < 0) : (EE t s || decide (t = s)) = false:=by
 rw [UV,Bool.or_eq_false_iff]
 have hf:=MD s t
 refine ⟨decide_eq_false (by omega),decide_eq_false fun e=>?_⟩
 rw [e,Te] at h
 omega
theorem IT (l : List Ii) (hl : l.length ≤ 300) (j : Option Int) (h1 : ∀ s ∈ l,Gf s.Who = some true ∧ 0 ≤ s.Fault ∧ s.Fault ≤ 8) (h2 : l.Pairwise fun a b=>cB a.Who b.Who < 0) : ∀ (ys dn : List Ii),l = dn ++ ys → Jb l j ys dn.length = j
 | [],_,_=>rfl
 | y :: ys,dn,he=>by
  obtain ⟨k,t0,t1⟩:=h1 y (by rw [he]; simp)
  have ih:=IT l hl j h1 h2 ys (dn ++ [y]) (by rw [he]; simp)
  rw [List.length_append,List.length_singleton] at ih
  rw [Jb,k]
  simp only [Option.bind_some,Bool.not_true,Bool.false_eq_true,if_false,On]
  rw [if_neg (by unfold Dv; simp; omega)]
  have hlen : l.length = dn.length + (ys.length + 1):=by rw [he]; simp
  by_cases h0 : (0 : Int) < (dn.length : Int)
  ·obtain ⟨d,x,hdx⟩ : ∃ d x,dn = d ++ [x]:=by
    rcases List.eq_nil_or_concat dn with h1 | ⟨d,x,h1⟩
    ·rw [h1] at h0; simp at h0
    ·exact ⟨d,x,by rw [h1]; simp⟩
   have hdl : dn.length = d.length + 1:=by rw [hdx]; simp
   have hw : W ((dn.length : Int) - 1) = (d.length : Int):=by rw [Nu (by omega) (by omega)]; omega
   have hn : nth l (d.length : Int) = x:=by rw [he,hdx]; unfold nth; simp
   have hc : cB x.Who y.Who < 0:=by
    rw [he,hdx,List.append_assoc,List.pairwise_append] at h2
    have:=h2.2.1
    simp only [List.cons_append,List.nil_append,List.pairwise_cons] at this
    exact this.1 y (by simp)
   rw [if_pos (decide_eq_true h0),hw,Fx (show inB (d.length : Int) l.length = true from Jf.2 (by omega)),hn,behindW hc,Bool.and_false,if_neg (by simp)]
   exact ih
  ·rw [if_neg (by simpa using h0),decide_eq_false h0,Bool.false_and,if_neg (by simp)]
   exact ih
theorem NR {l : List Ii} (hl : l.length ≤ 300) (h1 : ∀ s ∈ l,Gf s.Who = some true ∧ 0 ≤ s.Fault ∧ s.Fault ≤ 8) (h2 : l.Pairwise fun a b=>cB a.Who b.Who < 0) : Pp l = some 0:=by
 unfold Pp
 rw [if_neg (by simp; omega),On]
 exact IT l hl (some 0) h1 h2 l [] rfl
def ltT (x y : Dq) : Bool:=decide (x.Time < y.Time)
def EA (x y : Dq) : Bool:=decide (x.Time < y.Time ∨ (x.Time = y.Time ∧ cB x.Who y.Who < 0))
theorem FF {x y : Dq} : EA x y = true ↔ x.Time < y.Time ∨ (x.Time = y.Time ∧ cB x.Who y.Who < 0):=by simp [EA]
theorem PI (x y z : Dq) (h1 : EA x y = true) (h2 : EA y z = true) : EA x z = true:=by
 rw [FF] at *
 rcases h1 with h1 | ⟨h1,h3⟩
 ·rcases h2 with h2 | ⟨h2,_⟩ <;> exact .inl (by omega)
 ·rcases h2 with h2 | ⟨h2,h4⟩
  ·exact .inl (by omega)
  ·exact .inr ⟨by omega,BY h3 h4⟩
theorem IU {α : Type} {lt lt' : α → α → Bool} : ∀ (l rp : List α),(∀ x ∈ l,∀ y ∈ rp,lt x y = lt' x y) → l.Pairwise (fun a b=>lt b a = lt' b a) → Ux lt l rp = Ux lt' l rp
 | [],_,_,_=>rfl
 | x :: l,rp,h1,h2=>by
  rw [List.pairwise_cons] at h2
  show Ux lt l (Ua lt x rp) = Ux lt' l (Ua lt' x rp)
  have e : Ua lt x rp = Ua lt' x rp:=DZ x rp (h1 x List.mem_cons_self)
  rw [e]
  refine IU l _ (fun z hz y hy=>?_) h2.2
  rcases (Zj lt' x y rp).1 hy with rfl | hy
  ·exact h2.1 z hz
  ·exact h1 z (List.mem_cons_of_mem _ hz) y hy
theorem PJ {α : Type} {lt lt' : α → α → Bool} (l : List α) (h : l.Pairwise fun a b=>lt b a = lt' b a) : Qp lt l = Qp lt' l:=by
 unfold Qp
 rw [IU l [] (fun _ _ _ h=>by cases h) h]
theorem UY {l : List Dq} (h : l.Pairwise fun a b=>cB a.Who b.Who < 0) : Qp ltT l = Qp EA l:=PJ l (h.imp fun {a b} hab=>by
 have hf:=MD a.Who b.Who
 unfold ltT EA
 exact decide_eq_decide.2 ⟨.inl,fun hh=>by rcases hh with hh | ⟨_,hh⟩ <;> omega⟩)
theorem NS {l : List Dq} (h : l.Pairwise fun a b=>cB a.Who b.Who < 0) : (Qp EA l).Pairwise fun a b=>EA a b = true:=CN PI l (h.imp fun {a b} hab hb=>by
 rw [← Bool.not_eq_true,FF] at hb
 rw [FF]
 omega)
def PK (x y : Dq) : Bool:=decide (W (W (Int.tdiv x.Time 1) - W (Int.tdiv y.Time 1)) < 0)
theorem ltT1_is (x y : Dq) (hx : 0 ≤ x.Time ∧ x.Time ≤ 360000) (hy : 0 ≤ y.Time ∧ y.Time ≤ 360000) : PK x y = ltT x y:=by
 unfold PK ltT
 rw [Int.tdiv_one,Int.tdiv_one,Nu (n:=x.Time) (by omega) (by omega),Nu (n:=y.Time) (by omega) (by omega),Nu (by omega) (by omega)]
 exact decide_eq_decide.2 (by omega)
theorem TH (l : List Dq) (hl : l.length ≤ 19) (h : ∀ x ∈ l,0 ≤ x.Time ∧ x.Time ≤ 360000) : Ir l 1 = some (Qp ltT l):=by
 rw [← GP (lt:=PK) (lt':=ltT) l fun x hx y hy=>ltT1_is x y (h x hx) (h y hy)]
 have hs : Hi l 0 (l.length : Int) 1 = some (Qp PK l):=by
  unfold Hi
  simp only [On]
  have hins : ∀ (k : List Dq → Option (List Dq)) (rp : List Dq) (x : Dq) (post : List Dq),((rp ++ x :: post).length : Int) = (l.length : Int) → (∀ y,y ∈ rp ∨ y = x ∨ y ∈ post → y ∈ (rp ++ x :: post)) →
    En 0 1 k (((rp.length : Int) - 0).toNat + 2) (rp.reverse ++ x :: post) (rp.length : Int) = k ((Ua PK x rp).reverse ++ post):=by
   intro k rp x post h1 _
   exact NN (fun x y k=>Option.bind (Um x y 1) fun r=>k (decide (r < 0))) PK k (En 0 1 k) (fun _ _ _=>rfl) rp x post _ (by omega) (by simp at h1; omega) fun y hy k'=>by
    unfold Um
    rw [Fx (by decide),Fx (by decide)]
    rfl
  cases l with
  | nil=>rfl
  | cons x l =>
   have hw : W (0 + 1) = (([x] : List Dq).length : Int):=rfl
   rw [hw]
   exact FC PK (fun x=>some x) (fun k x i=>En 0 1 k ((i - 0).toNat + 2) x i) (Fi ((x :: l).length : Int) 0 1 fun x=>some x) ((x :: l).length : Int) (fun _ _ _=>rfl)
    (fun k rp x post h1 h2=>hins k rp x post h1 h2) l [x] _ (by simp only [List.length_cons,List.length_nil]; omega) (by simp only [List.length_cons,List.length_nil]; omega) (by simp only [List.length_cons,List.length_nil] at hl ⊢; omega)
 unfold Ir Kd
 simp only [On]
 rw [Gd,if_neg (by simp; omega),hs]
 simp only [Option.bind_some]
 rw [Ge,if_neg (by simp; omega)]
 rfl
def rkF (i : Nat) (pt pr : Int) : List Dq → List Dq
 | []=>[]
 | x :: xs=>let r:=if decide (0 < (i : Int)) && decide (x.Time = pt) then pr else (i : Int) + 1
  Dq.mk x.Who r x.Time x.Fault :: rkF (i + 1) x.Time r xs
theorem RF : ∀ (l : List Dq) (i : Nat) (pt pr : Int),(rkF i pt pr l).length = l.length
 | [],_,_,_=>rfl
 | x :: xs,i,pt,pr=>by simp [rkF,RF xs]
theorem HV (j : List Dq → Option (List Dq × Int)) : ∀ (B A ys : List Dq) (pt pr : Int),ys.length = B.length → (A ++ B).length ≤ 1000 → (∀ x ∈ B,0 ≤ x.Time ∧ x.Time ≤ 360000) → (A = [] ∨ ∃ A' z,A = A' ++ [z] ∧ z.Time = pt ∧ z.Rank = pr ∧ 0 ≤ pt ∧ pt ≤ 360000) →
  Nm 1 j ys A.length (A ++ B) = j (A ++ rkF A.length pt pr B)
 | [],A,ys,pt,pr,h1,_,_,_=>by
  obtain rfl : ys = []:=List.length_eq_zero_iff.1 h1
  rw [Nm]; rfl
 | b :: B,A,[],pt,pr,h1,_,_,_=>by simp at h1
 | b :: B,A,y :: ys,pt,pr,h1,h2,h3,h4=>by
  simp only [List.length_cons,Nat.add_right_cancel_iff] at h1
  have hlen : (A ++ b :: B).length = A.length + (B.length + 1):=by simp
  have hb:=h3 b List.mem_cons_self
  have nb : nth (A ++ b :: B) (A.length : Int) = b:=Wu A b B rfl
  have ib : inB (A.length : Int) (A ++ b :: B).length = true:=Jf.2 (by omega)
  have tb : W (Int.tdiv b.Time 1) = b.Time:=by rw [Int.tdiv_one]; exact Nu (by omega) (by omega)
  have sb : ∀ z : Dq,(A ++ b :: B).set (((A.length : Nat) : Int).toNat) z = (A ++ [z]) ++ B:=fun z=>by simp
  rw [Nm]
  simp only [On]
  rw [rkF]
  by_cases h0 : (0 : Int) < (A.length : Int)
  ·obtain ⟨A',z,hA,z1,z2,z3,z4⟩ : ∃ A' z,A = A' ++ [z] ∧ z.Time = pt ∧ z.Rank = pr ∧ 0 ≤ pt ∧ pt ≤ 360000:=by
    rcases h4 with h4 | h4
    ·rw [h4] at h0; simp at h0
    ·exact h4
   have hAl : A.length = A'.length + 1:=by rw [hA]; simp
   have hw : W ((A.length : Int) - 1) = (A'.length : Int):=by rw [Nu (by omega) (by omega)]; omega
   have nz : nth (A ++ b :: B) (A'.length : Int) = z:=by rw [hA,List.append_assoc]; exact Wu A' z _ rfl
   have iz : inB (A'.length : Int) (A ++ b :: B).length = true:=Jf.2 (by omega)
   have tz : W (Int.tdiv z.Time 1) = pt:=by rw [Int.tdiv_one,z1]; exact Nu (by omega) (by omega)
   have hw1 : W ((A.length : Int) + 1) = (A.length : Int) + 1:=Nu (by omega) (by omega)
   rw [if_pos (decide_eq_true h0),Fx ib,Fx (by decide),hw,Fx iz,Fx (by decide),nb,nz,tb,tz,decide_eq_true h0,Bool.true_and]
   by_cases ht : b.Time = pt
   ·rw [if_pos (decide_eq_true ht),Fx iz,Fx ib,sb,decide_eq_true ht]
    have:=HV j B (A ++ [Dq.mk b.Who z.Rank b.Time b.Fault]) ys b.Time z.Rank h1 (by simp at h2 ⊢; omega) (fun x hx=>h3 x (List.mem_cons_of_mem _ hx)) (.inr ⟨A,_,rfl,rfl,rfl,hb.1,hb.2⟩)
    rw [List.length_append,List.length_singleton] at this
    rw [this,z2]
    simp
   ·rw [if_neg (by simpa using ht),Fx ib,sb,hw1,decide_eq_false ht]
    have:=HV j B (A ++ [Dq.mk b.Who ((A.length : Int) + 1) b.Time b.Fault]) ys b.Time ((A.length : Int) + 1) h1 (by simp at h2 ⊢; omega) (fun x hx=>h3 x (List.mem_cons_of_mem _ hx)) (.inr ⟨A,_,rfl,rfl,rfl,hb.1,hb.2⟩)
    rw [List.length_append,List.length_singleton] at this
    rw [this]
    simp
  ·have hw1 : W ((A.length : Int) + 1) = (A.length : Int) + 1:=Nu (by omega) (by omega)
   rw [if_neg (by simpa using h0),decide_eq_false h0,Bool.false_and,Bool.false_and,if_neg (by simp),Fx ib,nb,sb,hw1]
   have:=HV j B (A ++ [Dq.mk b.Who ((A.length : Int) + 1) b.Time b.Fault]) ys b.Time ((A.length : Int) + 1) h1 (by simp at h2 ⊢; omega) (fun x hx=>h3 x (List.mem_cons_of_mem _ hx)) (.inr ⟨A,_,rfl,rfl,rfl,hb.1,hb.2⟩)
   rw [List.length_append,List.length_singleton] at this
   rw [this]
   simp
def Yj (V : List Ii) (m : List (ByteArray × Int)) : List (ByteArray × Int):=V.foldl (fun m v=>Gl m v.Who v.Fault) m
theorem RG (j : List (ByteArray × Int) → Option (List Dq × Int)) : ∀ (V : List Ii) (i : Nat) (m : List (ByteArray × Int)),Oe j V i m = j (Yj V m)
 | [],_,m=>rfl
 | v :: V,i,m=>by rw [Oe,RG j V (i + 1) _]; rfl
def mkR (f : ByteArray → Int) (s : Gq) : Dq:=Dq.mk s.Who 0 s.Time (f s.Who)
def isG (f : ByteArray → Int) (s : Gq) : Bool:=decide (f s.Who = 0) && decide (0 < s.Time)
theorem ME (x1 : List (ByteArray × Int)) (j : List Dq → List Dq → Option (List Dq × Int)) : ∀ (ys : List Gq) (i : Nat) (x2 x3 : List Dq),x2.length + ys.length ≤ 1000 → x3.length + ys.length ≤ 1000 →
  Nl x1 j ys i x2 x3 = j (x2 ++ (ys.filter fun s=>!isG (fun w=>Ea x1 w 0) s).map (mkR fun w=>Ea x1 w 0)) (x3 ++ (ys.filter (isG fun w=>Ea x1 w 0)).map (mkR fun w=>Ea x1 w 0))
 | [],i,x2,x3,_,_=>by simp [Nl]
 | y :: ys,i,x2,x3,h2,h3=>by
  simp only [List.length_cons] at h2 h3
  rw [Nl]
  simp only [On]
  have hg : isG (fun w=>Ea x1 w 0) y = (decide (Ea x1 y.Who 0 = 0) && decide (0 < y.Time)):=rfl
  have hm : mkR (fun w=>Ea x1 w 0) y = Dq.mk y.Who 0 y.Time (Ea x1 y.Who 0):=rfl
  cases hc : (decide (Ea x1 y.Who 0 = 0) && decide (0 < y.Time)) with
  | true =>
   rw [if_pos rfl,Fx (by unfold Rw; exact decide_eq_true (by omega)),ME x1 j ys (i + 1) x2 _ (by omega) (by simp; omega),List.filter_cons_of_neg (by rw [hg,hc]; simp),List.filter_cons_of_pos (by rw [hg,hc]),List.map_cons,hm]
   simp
  | false =>
   rw [if_neg (by simp),Fx (by unfold Rw; exact decide_eq_true (by omega)),ME x1 j ys (i + 1) _ x3 (by simp; omega) (by omega),List.filter_cons_of_pos (by rw [hg,hc]; simp),List.filter_cons_of_neg (by rw [hg,hc]; simp),List.map_cons,hm]
   simp
def Zl (f : ByteArray → Int) (Q : List Gq) : List Dq :=
 rkF 0 0 0 (Qp EA ((Q.filter (isG f)).map (mkR f))) ++ (Q.filter fun s=>!isG f s).map (mkR f)
theorem rank_is {Q : List Gq} {V : List Ii} (hl : Q.length ≤ 19) (h1 : ∀ s ∈ Q,Gf s.Who = some true ∧ 0 ≤ s.Time ∧ s.Time ≤ 360000) (h2 : Q.Pairwise fun a b=>cB a.Who b.Who < 0) (hv : V.length ≤ 300) (v1 : ∀ s ∈ V,Gf s.Who = some true ∧ 0 ≤ s.Fault ∧ s.Fault ≤ 8) (v2 : V.Pairwise fun a b=>cB a.Who b.Who < 0) :
  Wi Q V = some (Zl (fun w=>Ea (Yj V []) w 0) Q,0):=by
 have hnd : (Q.map (·.Who)).Nodup:=List.pairwise_map.2 (h2.imp fun {a b} h e=>by rw [e,Te] at h; omega)
 have hgl:=List.length_filter_le (isG fun w=>Ea (Yj V []) w 0) Q
 have hbl:=List.length_filter_le (fun s=>!isG (fun w=>Ea (Yj V []) w 0) s) Q
 have hG : ∀ x ∈ (Q.filter (isG fun w=>Ea (Yj V []) w 0)).map (mkR fun w=>Ea (Yj V []) w 0),0 ≤ x.Time ∧ x.Time ≤ 360000:=fun x hx=>by
  obtain ⟨s,hs,rfl⟩:=List.mem_map.1 hx
  exact (h1 s (List.mem_filter.1 hs).1).2
 have hGp : ((Q.filter (isG fun w=>Ea (Yj V []) w 0)).map (mkR fun w=>Ea (Yj V []) w 0)).Pairwise fun a b=>cB a.Who b.Who < 0:=by
  rw [List.pairwise_map]
  exact h2.sublist List.filter_sublist
 unfold Wi Zx
 rw [UX (by omega) h1 hnd]
 simp only [Option.bind_some,decide_true,Bool.not_true,Bool.false_eq_true,if_false]
 rw [NR hv v1 v2]
 simp only [Option.bind_some,decide_true,Bool.not_true,Bool.false_eq_true,if_false,On]
 rw [RG,ME _ _ Q 0 [] [] (by simp; omega) (by simp; omega),List.nil_append,List.nil_append,TH _ (by rw [List.length_map]; omega) hG,UY hGp]
 simp only [Option.bind_some]
 have hl3:=HV (fun x8=>Chk (decide (x8.length + ((Q.filter fun s=>!isG (fun w=>Ea (Yj V []) w 0) s).map (mkR fun w=>Ea (Yj V []) w 0)).length < 1073741824)) (some (x8 ++ (Q.filter fun s=>!isG (fun w=>Ea (Yj V []) w 0) s).map (mkR fun w=>Ea (Yj V []) w 0),0)))
  (Qp EA ((Q.filter (isG fun w=>Ea (Yj V []) w 0)).map (mkR fun w=>Ea (Yj V []) w 0))) [] (Qp EA ((Q.filter (isG fun w=>Ea (Yj V []) w 0)).map (mkR fun w=>Ea (Yj V []) w 0))) 0 0 rfl (by rw [List.nil_append,Yc,List.length_map]; omega) (fun x hx=>hG x ((Xt _ _ _).1 hx)) (.inl rfl)
 rw [List.length_nil,List.nil_append,List.nil_append] at hl3
 rw [hl3,Fx (by rw [RF,Yc,List.length_map,List.length_map]; exact decide_eq_true (by omega))]
 rfl
end Go.Proofs.YtfcmmengcdebnaaGreatDoor
namespace Go.Proofs.YtfcmmengcdebnaaGreatDoor
open Go
def ltW (x y : Dk) : Bool:=decide (Nx x y < 0)
theorem TI (l : List Dk) (hl : l.length ≤ 12) : Hw l 0 (l.length : Int) = some (Qp ltW l):=by
 unfold Hw
 simp only [On]
 have hins : ∀ (k : List Dk → Option (List Dk)) (rp : List Dk) (x : Dk) (post : List Dk),((rp ++ x :: post).length : Int) = (l.length : Int) → (∀ y,y ∈ rp ∨ y = x ∨ y ∈ post → y ∈ (rp ++ x :: post)) →
   El 0 k (((rp.length : Int) - 0).toNat + 2) (rp.reverse ++ x :: post) (rp.length : Int) = k ((Ua ltW x rp).reverse ++ post):=by
  intro k rp x post h1 _
  exact NN (fun x y k=>k (ltW x y)) ltW k (El 0 k) (fun _ _ _=>rfl) rp x post _ (by omega) (by simp at h1; omega) fun y _ k'=>rfl
 cases l with
 | nil=>rfl
 | cons x l =>
  have hw : W (0 + 1) = (([x] : List Dk).length : Int):=rfl
  rw [hw]
  exact FC ltW (fun x=>some x) (fun k x i=>El 0 k ((i - 0).toNat + 2) x i) (Ff ((x :: l).length : Int) 0 fun x=>some x) ((x :: l).length : Int) (fun _ _ _=>rfl)
   (fun k rp x post h1 h2=>hins k rp x post h1 h2) l [x] _ (by simp only [List.length_cons,List.length_nil]; omega) (by simp only [List.length_cons,List.length_nil]; omega) (by simp only [List.length_cons,List.length_nil] at hl ⊢; omega)
theorem UZ (l : List Dk) (hl : l.length ≤ 12) : Jj l = some (Qp ltW l):=by
 unfold Jj
 obtain ⟨r,hr⟩:=Option.isSome_iff_exists.1 (len_d ⟨l.length,by omega⟩)
 simp only at hr
 rw [hr]
 simp only [Option.bind_some]
 unfold Js
 rw [show (4611686018427387904 : Nat) = 4611686018427387903 + 1 from rfl,Gi,Nu (by omega) (by omega),if_pos (decide_eq_true (by omega)),TI l hl]
 rfl
theorem IV (x y : Dk) : ltW x y = decide (cB x.Who y.Who < 0):=rfl
theorem ltW_irr (x : Dk) : ltW x x = false:=by rw [IV,Te]; rfl
theorem GC (x y z : Dk) (h1 : ltW x y = true) (h2 : ltW y z = true) : ltW x z = true:=by
 rw [IV,decide_eq_true_eq] at *; exact BY h1 h2
theorem MG {l : List Dk} (h : (l.map (·.Who)).Nodup) : l.Pairwise fun a b=>ltW b a = false → ltW a b = true:=by
 refine (List.pairwise_map.1 h).imp fun {a b} hne hb=>?_
 rw [IV,decide_eq_false_iff_not] at hb
 rw [IV,decide_eq_true_eq]
 have h0 : cB a.Who b.Who ≠ 0:=fun e=>hne (MC e)
 have:=MD a.Who b.Who
 omega
end Go.Proofs.YtfcmmengcdebnaaGreatDoor
