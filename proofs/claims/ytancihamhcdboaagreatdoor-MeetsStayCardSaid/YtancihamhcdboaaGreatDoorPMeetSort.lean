/- Entries of a race that are sorted by who they are of. No program stands here but its twins. -/
import Derived.Test.YtancihamhcdboaaGreatDoorTw
namespace Go.Proofs.YtancihamhcdboaaGreatDoor
open Go

theorem Gn {R : Type} {c : Bool} {k : Option R} (h : c = true) : Chk c k = k:=by simp [Chk,h]
theorem Kt {κ R : Type} (K : κ) (f : κ → R) : Gq K f = f K:=rfl
theorem IL {x n : Int} (hn : 0 < n) : -n < Int.tmod x n ∧ Int.tmod x n < n:=by
 have h1:=Int.tmod_lt_of_pos x hn
 have h2:=Int.tmod_lt_of_pos (-x) hn
 rw [Int.neg_tmod] at h2
 omega
theorem KD (x n : Int) (hn : n ≤ 4611686018427387904) : ∃ v,Rk x n = some v ∧ 0 ≤ v ∧ (v < n ∨ (n < 1 ∧ v = 0)):=by
 unfold Rk
 by_cases h : n < 1
 ·exact ⟨0,by simp [h],Int.le_refl _,.inr ⟨h,rfl⟩⟩
 ·have h1:=IL (x:=x) (n:=n) (by omega)
  have h0 : ¬ n = 0:=by omega
  simp only [decide_eq_true_eq,h,if_false,Gq]
  rw [Gn (by simp [h0])]
  by_cases h2 : Int.tmod x n < 0
  ·rw [if_pos h2,Ox (by omega) (by omega)]
   exact ⟨_,rfl,by omega,.inl (by omega)⟩
  ·rw [if_neg h2]
   exact ⟨_,rfl,by omega,.inl (by omega)⟩
theorem EH (L : List Int) (a n : Int) (ha : 0 ≤ a) (ha' : a ≤ 4611686018427387904) (hL : (L.length : Int) ≤ 9223372036854775807) (hn : n ≤ 4611686018427387904) :
  ∃ v,Qw L a n = some (v,a + 1) ∧ 0 ≤ v ∧ (v < n ∨ (n < 1 ∧ v = 0)):=by
 have w1 : W (a + 1) = a + 1:=Ox (by omega) (by omega)
 have w2 : W (a + 1 - 1) = a:=by rw [show a + 1 - 1 = a by omega]; exact Ox (by omega) (by omega)
 unfold Qw
 rw [w1,w2]
 by_cases h : (L.length : Int) = 0
 ·obtain ⟨v,h1,h2,h3⟩:=KD (W ((a + 1) * 7919)) n hn
  exact ⟨v,by simp [h,h1],h2,h3⟩
 ·have h0 : 0 < (L.length : Int):=by omega
  have hm:=IL (x:=a) h0
  have hm0 : 0 ≤ Int.tmod a (L.length : Int):=Int.tmod_nonneg _ ha
  have hc : inB (Int.tmod a (L.length : Int)) L.length = true:=Ju.2 ⟨hm0,hm.2⟩
  obtain ⟨v1,e1,_,_⟩:=KD (nth L (Int.tmod a (L.length : Int))) 1073741824 (by omega)
  simp only [decide_eq_true_eq,h,if_false]
  rw [Gn (by simp),Gn (by simp),Gn hc,e1]
  simp only [Option.bind_some]
  obtain ⟨v2,e2,g1,g2⟩:=KD (W (v1 + W (W (Int.tdiv a (L.length : Int)) * W (7919 + Int.tmod a (L.length : Int))))) n hn
  exact ⟨v2,by rw [e2]; rfl,g1,g2⟩
theorem TM (L : List Int) (a : Int) (l : List Int) (ha : 0 ≤ a) (ha' : a ≤ 4611686018427387904) (hL : (L.length : Int) ≤ 9223372036854775807) (hl : 0 < l.length) (hl' : l.length ≤ 1000) :
  ∃ v,Kh L a l = some (v,a + 1) ∧ v ∈ l:=by
 obtain ⟨v,h1,h2,h3⟩:=EH L a (l.length : Int) ha ha' hL (by omega)
 have h4 : v < (l.length : Int):=by omega
 have hc : inB v l.length = true:=Ju.2 ⟨h2,h4⟩
 unfold Kh
 rw [h1]
 simp only [Option.bind_some]
 rw [Gn hc]
 exact ⟨nth l v,rfl,List.mem_of_getElem? (Eh hc).1⟩
theorem TN (L : List Int) (a n : Int) (ha : 0 ≤ a) (ha' : a ≤ 4611686018427387904) (hL : (L.length : Int) ≤ 9223372036854775807) (hn : n ≤ 4611686018427387904) : ∃ b,Tg L a n = some (b,a + 1):=by
 obtain ⟨v,h1,_,_⟩:=EH L a n ha ha' hL hn
 unfold Tg
 rw [h1]
 exact ⟨_,rfl⟩
end Go.Proofs.YtancihamhcdboaaGreatDoor
namespace Go.Proofs.YtancihamhcdboaaGreatDoor
open Go

theorem OF {l : List UInt8} {c : UInt8} : decide (Lib.indexByte l c < 0) = !l.contains c:=by
 have key : ∀ l : List UInt8,(Lib.indexByte l c = -1 ∧ l.contains c = false) ∨ (0 ≤ Lib.indexByte l c ∧ l.contains c = true):=by
  intro l
  induction l with
  | nil=>exact .inl ⟨rfl,rfl⟩
  | cons b l ih =>
   by_cases hb : b = c
   ·subst hb; exact .inr (by simp [Lib.indexByte])
   ·have hb' : (b == c) = false:=by simpa using hb
    have hc : (c == b) = false:=by simpa using fun h=>hb h.symm
    rcases ih with ⟨h1,h2⟩ | ⟨h1,h2⟩
    ·refine .inl ⟨by simp [Lib.indexByte,hb',h1],?_⟩
     rw [List.contains_cons,hc,h2]; rfl
    ·have h3 : ¬ Lib.indexByte l c = -1:=by omega
     refine .inr ⟨by simp [Lib.indexByte,hb',h3]; omega,?_⟩
     rw [List.contains_cons,hc,h2]; rfl
 rcases key l with ⟨h1,h2⟩ | ⟨h1,h2⟩
 ·rw [h1,h2]; rfl
 ·rw [h2]; simp; omega
theorem VK (u : UInt8) : ((u.toNat : Int)).toNat.toUInt8 = u:=by simp
theorem AV (s : ByteArray) : s.size = s.data.toList.length:=by rw [ByteArray.size,Array.length_toList]
theorem MP {s : ByteArray} {j : Nat} {u : UInt8} (h : s.data.toList[j]? = some u) : Zs s (j : Int) = (u.toNat : Int):=by
 unfold Zs
 rw [Int.toNat_natCast]
 simp [List.getD,h]
theorem VL (s some_ : ByteArray) : ∀ (k : Nat) (m : Nat),k + m = s.size + 1 → s.size ≤ 4611686018427387904 →
  Mh s some_ (some true) (m + 1) (k : Int) = some ((s.data.toList.drop k).all fun b=>some_.data.toList.contains b):=by
 intro k m
 induction m generalizing k with
 | zero =>
  intro h hs
  have h1 : ¬ (k : Int) < (s.size : Int):=by omega
  rw [Mh]
  rw [if_neg (by simpa using h1),List.drop_of_length_le (by rw [← AV]; omega)]
  rfl
 | succ m ih =>
  intro h hs
  rw [Mh]
  by_cases h1 : (k : Int) < (s.size : Int)
  ·have hk : k < s.data.toList.length:=by rw [← AV]; omega
   have hget : s.data.toList[k]? = some s.data.toList[k]:=List.getElem?_eq_getElem hk
   rw [if_pos (decide_eq_true h1),Gn (Ju.2 ⟨by omega,h1⟩),List.drop_eq_getElem_cons hk,List.all_cons]
   have hb : decide (Uk some_ (Zs s (k : Int)) < 0) = !some_.data.toList.contains s.data.toList[k]:=by
    unfold Uk
    rw [MP hget,VK,OF]
   rw [hb]
   cases hc : some_.data.toList.contains s.data.toList[k] with
   | false=>simp
   | true =>
    simp only [Bool.not_true,Bool.false_eq_true,if_false,Bool.true_and]
    have hw : W ((k : Int) + 1) = ((k + 1 : Nat) : Int):=by rw [Ox (by omega) (by omega)]; omega
    rw [hw]
    exact ih (k + 1) (by omega) hs
  ·rw [if_neg (by simpa using h1),List.drop_of_length_le (by rw [← AV]; omega)]
   rfl
theorem TO (s some_ : ByteArray) (hs : s.size ≤ 4611686018427387904) : Ue s some_ = some (s.data.toList.all fun b=>some_.data.toList.contains b):=by
 unfold Ue
 rw [Kt]
 have h:=VL s some_ 0 (s.size + 1) (by omega) hs
 have e : ((s.size : Int) - 0).toNat + 2 = s.size + 1 + 1:=by omega
 rw [e]
 exact h
theorem Yb {p : UInt8 → Bool} : ∀ {l : List UInt8},l.dropWhile p = [] ↔ l.all p = true
 | []=>by simp
 | a :: l=>by
  rw [List.dropWhile_cons,List.all_cons]
  cases h : p a with
  | true=>simpa [h] using Yb (p:=p) (l:=l)
  | false=>simp
theorem XK {l cs : List UInt8} : Lib.trimS l cs = [] ↔ l.all (fun b=>cs.contains b) = true:=by
 unfold Lib.trimS Lib.trimLeftS Lib.trimRightS
 rw [Yb,List.all_reverse]
 constructor
 ·intro h
  have h2 : l.reverse.dropWhile (fun x=>cs.contains x) = []:=by
   cases hd : l.reverse.dropWhile (fun x=>cs.contains x) with
   | nil=>rfl
   | cons a r =>
    have h3:=List.head_dropWhile_not (fun x=>cs.contains x) (l:=l.reverse) (by rw [hd]; simp)
    rw [hd] at h
    simp only [hd,List.head_cons] at h3
    rw [List.all_cons,h3] at h
    cases h
  rw [Yb,List.all_reverse] at h2
  exact h2
 ·intro h
  have h2 : l.reverse.dropWhile (fun x=>cs.contains x) = []:=by rw [Yb,List.all_reverse]; exact h
  rw [h2]; rfl
end Go.Proofs.YtancihamhcdboaaGreatDoor
namespace Go.Proofs.YtancihamhcdboaaGreatDoor
open Go

theorem VM (u : UInt8) : Lo.data.toList.contains u = (decide (97 ≤ (u.toNat : Int)) && decide ((u.toNat : Int) ≤ 122)):=by
 have key : ∀ n : Fin 256,Lo.data.toList.contains (UInt8.ofNat n.val) = (decide (97 ≤ (((UInt8.ofNat n.val).toNat : Nat) : Int)) && decide ((((UInt8.ofNat n.val).toNat : Nat) : Int) ≤ 122)):=by decide +kernel
 have h:=key ⟨u.toNat,u.toNat_lt⟩
 simpa using h
theorem VN : (Io.data.toList.all fun b=>decide (b.toNat < 128)) = true:=by decide +kernel
theorem VO (l : List UInt8) : ((⟨l.toArray⟩ : ByteArray) = An) ↔ l = []:=by
 constructor
 ·intro h
  have h2:=congrArg (fun b : ByteArray=>b.data.toList) h
  simpa [An] using h2
 ·rintro rfl; rfl
theorem Xg (s : ByteArray) : ∃ b,Gy s = some b ∧ Pz s = some b:=by
 by_cases hs : 1 ≤ s.size ∧ s.size ≤ 40
 ·obtain ⟨h1,h2⟩:=hs
  have hsz:=AV s
  obtain ⟨u,r,hl⟩ : ∃ u r,s.data.toList = u :: r:=by
   cases h : s.data.toList with
   | nil=>rw [h] at hsz; exact absurd hsz (by show ¬ s.size = 0; omega)
   | cons u r=>exact ⟨u,r,rfl⟩
  have hin : Le (s.size : Int) 1 40 = true:=by unfold Le; simp; omega
  have hwin : (decide (1 ≤ (s.size : Int)) && decide ((s.size : Int) ≤ 40)) = true:=by simp; omega
  have hb0 : inB 0 s.size = true:=Ju.2 ⟨by omega,by omega⟩
  have hc0 : EM 0 1 s.size = true:=Wn.2 ⟨by omega,by omega,by omega⟩
  have hu : Zs s 0 = (u.toNat : Int):=MP (j:=0) (by rw [hl]; rfl)
  have hcut : (OQ s 0 1).data.toList = [u]:=by
   unfold OQ
   simp [hl]
  have hcsz : (OQ s 0 1).size ≤ 4611686018427387904:=by rw [AV,hcut]; simp
  have hall:=TO s Io (by omega)
  have hone:=TO (OQ s 0 1) Lo hcsz
  rw [hcut] at hone
  simp only [List.all_cons,List.all_nil,Bool.and_true,VM] at hone
  have htrim : Wv s Io = some ⟨(Lib.trimS s.data.toList Io.data.toList).toArray⟩:=by
   unfold Wv
   rw [Gn (by simp; omega),Gn (by decide +kernel),Gn VN]
  have htr : decide ((⟨(Lib.trimS s.data.toList Io.data.toList).toArray⟩ : ByteArray) = An) = s.data.toList.all fun b=>Io.data.toList.contains b:=by
   rw [Bool.eq_iff_iff,decide_eq_true_eq,VO,XK]
  refine ⟨(decide (97 ≤ (u.toNat : Int)) && decide ((u.toNat : Int) ≤ 122)) && s.data.toList.all fun b=>Io.data.toList.contains b,?_,?_⟩
  ·unfold Gy
   simp only [Kt,hwin,if_true,Bool.true_and,Gn hb0,hu]
   by_cases g1 : 97 ≤ (u.toNat : Int)
   ·simp only [g1,decide_true,if_true,Bool.true_and]
    by_cases g2 : (u.toNat : Int) ≤ 122
    ·simp only [g2,decide_true,if_true,Bool.true_and,htrim,Option.bind_some,htr]
    ·simp only [g2,decide_false,Bool.false_eq_true,if_false,Bool.false_and]
   ·simp only [g1,decide_false,Bool.false_eq_true,if_false,Bool.false_and]
  ·unfold Pz
   simp only [Kt,hin,if_true,Bool.true_and,Gn hc0,hone,Option.bind_some]
   cases hz : (decide (97 ≤ (u.toNat : Int)) && decide ((u.toNat : Int) ≤ 122)) with
   | true=>simp only [if_true,hall,Option.bind_some,Bool.true_and]
   | false=>simp only [Bool.false_eq_true,if_false,Bool.false_and]
 ·refine ⟨false,?_,?_⟩
  ·have hwin : (decide (1 ≤ (s.size : Int)) && decide ((s.size : Int) ≤ 40)) = false:=by simp; omega
   unfold Gy
   simp only [Kt,hwin,Bool.false_eq_true,if_false,Bool.false_and]
  ·have hin : Le (s.size : Int) 1 40 = false:=by unfold Le; simp; omega
   unfold Pz
   simp only [Kt,hin,Bool.false_eq_true,if_false,Bool.false_and]
end Go.Proofs.YtancihamhcdboaaGreatDoor
namespace Go.Proofs.YtancihamhcdboaaGreatDoor
open Go
theorem DR {κ ν : Type} [DecidableEq κ] (k k' : κ) (v : ν) : ∀ (m : List (κ × ν)) (i : Nat),(Od (Gw m k v) k' i).map (·.2) = if k' = k then some v else (Od m k' i).map (·.2)
 | [],i=>by
  by_cases h : k' = k <;> simp [Gw,Od,h]
 | (q,u) :: m,i=>by
  by_cases h1 : k = q
  ·subst h1
   by_cases h2 : k' = k <;> simp [Gw,Od,h2]
  ·by_cases h2 : k' = q
   ·subst h2
    simp [Gw,Od,h1]
    exact fun h=>(h1 h.symm).elim
   ·simp only [Gw,h1,if_false,Od,h2]
    exact DR k k' v m (i + 1)
theorem Yc {κ ν : Type} [DecidableEq κ] (m : List (κ × ν)) (k k' : κ) (v d : ν) : El (Gw m k v) k' d = if k' = k then v else El m k' d:=by
 unfold El Pi
 rw [DR]
 split <;> simp
end Go.Proofs.YtancihamhcdboaaGreatDoor
namespace Go.Proofs.YtancihamhcdboaaGreatDoor
open Go
theorem Og {κ R : Type} (K : κ) (f : κ → R) : Gq K f = f K:=rfl
theorem PX {R : Type} {c : Bool} {k : Option R} (h : c = true) : Chk c k = k:=by subst h; rfl
section
variable {α R : Type}
variable [Inhabited α]
theorem Xh (a : List α) (y : α) (b : List α) {e : Int} (he : e = (a.length : Int)) : nth (a ++ y :: b) e = y:=by
 subst he
 simp [nth]
def Ur (lt : α → α → Bool) (x : α) : List α → List α
 | []=>[x]
 | y :: r=>if lt x y then y :: Ur lt x r else x :: y :: r
def Wm (lt : α → α → Bool) (l rp : List α) : List α:=l.foldl (fun rp x=>Ur lt x rp) rp
def Pv (lt : α → α → Bool) (l : List α) : List α:=(Wm lt l []).reverse
omit [Inhabited α] in
theorem DS (lt : α → α → Bool) (x : α) : ∀ l : List α,(Ur lt x l).length = l.length + 1
 | []=>rfl
 | y :: r=>by
  unfold Ur
  split
  ·simp [DS lt x r]
  ·rfl
omit [Inhabited α] in
theorem AW (lt : α → α → Bool) (x z : α) : ∀ l : List α,z ∈ Ur lt x l ↔ z = x ∨ z ∈ l
 | []=>by simp [Ur]
 | y :: r=>by
  unfold Ur
  split
  ·simp only [List.mem_cons,AW lt x z r]
   constructor
   ·rintro (h | h | h)
    ·exact .inr (.inl h)
    ·exact .inl h
    ·exact .inr (.inr h)
   ·rintro (h | h | h)
    ·exact .inr (.inl h)
    ·exact .inl h
    ·exact .inr (.inr h)
  ·simp
theorem KE (C : α → α → (Bool → Option R) → Option R) (lt : α → α → Bool) (j : List α → Option R) (F : Nat → List α → Int → Option R)
  (h : ∀ m x i,F (m + 1) x i = if decide (0 < i) then Chk (inB i x.length) (Chk (inB (W (i - 1)) x.length) (C (nth x i) (nth x (W (i - 1))) (fun b=>if b then
   Chk (inB (W (i - 1)) x.length) (Chk (inB i x.length) (Chk (inB i x.length) (Chk (inB (W (i - 1)) (x.set i.toNat (nth x (W (i - 1)))).length) (F m ((x.set i.toNat (nth x (W (i - 1)))).set (W (i - 1)).toNat (nth x i)) (W (i - 1)))))) else j x))) else j x) :
  ∀ (rp : List α) (x : α) (post : List α) (m : Nat),rp.length < m → rp.length + post.length < 1073741824 → (∀ y ∈ rp,∀ k,C x y k = k (lt x y)) →
   F m (rp.reverse ++ x :: post) (rp.length : Int) = j ((Ur lt x rp).reverse ++ post)
 | [],x,post,m,h1,h2,_=>by
  obtain ⟨m,rfl⟩ : ∃ q,m = q + 1:=⟨m - 1,by omega⟩
  rw [h,if_neg (by simp)]
  rfl
 | y :: r,x,post,m,h1,h2,hC=>by
  obtain ⟨m,rfl⟩ : ∃ q,m = q + 1:=⟨m - 1,by omega⟩
  simp only [List.length_cons] at h1 h2
  have e0 : (y :: r).reverse ++ x :: post = r.reverse ++ y :: x :: post:=by simp
  have e0' : r.reverse ++ y :: x :: post = (r.reverse ++ [y]) ++ x :: post:=by simp
  have wi : W ((((y :: r).length : Nat) : Int) - 1) = (r.length : Int):=by rw [Ox (by simp only [List.length_cons]; omega) (by simp only [List.length_cons]; omega)]; simp
  have n1 : nth (r.reverse ++ y :: x :: post) (((y :: r).length : Nat) : Int) = x:=by rw [e0']; exact Xh _ _ _ (by simp)
  have n2 : nth (r.reverse ++ y :: x :: post) (r.length : Int) = y:=Xh _ _ _ (by simp)
  have b1 : inB (((y :: r).length : Nat) : Int) (r.reverse ++ y :: x :: post).length = true:=Ju.2 ⟨by omega,by simp; omega⟩
  have b2 : inB (r.length : Int) (r.reverse ++ y :: x :: post).length = true:=Ju.2 (by simp; omega)
  rw [h,e0,if_pos (decide_eq_true (by simp only [List.length_cons]; omega)),wi,PX b1,PX b2,n1,n2,hC y List.mem_cons_self]
  unfold Ur
  cases hb : lt x y with
  | true =>
   simp only [if_true]
   rw [PX b2,PX b1,PX b1,PX (by rw [List.length_set]; exact b2)]
   have e1 : ((r.reverse ++ y :: x :: post).set (((y :: r).length : Nat) : Int).toNat y).set (r.length : Int).toNat x = r.reverse ++ x :: (y :: post):=by
    have e2 : (r.reverse ++ y :: x :: post).set (((y :: r).length : Nat) : Int).toNat y = r.reverse ++ y :: y :: post:=by
     rw [e0',show (((y :: r).length : Nat) : Int).toNat = (r.reverse ++ [y]).length by simp,List.set_append_right _ _ (Nat.le_refl _)]
     simp
    rw [e2,show (r.length : Int).toNat = r.reverse.length by simp,List.set_append_right _ _ (Nat.le_refl _)]
    simp
   rw [e1,KE C lt j F h r x (y :: post) m (by omega) (by simp; omega) (fun z hz=>hC z (List.mem_cons_of_mem _ hz))]
   simp
  | false=>simp
omit [Inhabited α] in
theorem BX (lt : α → α → Bool) (j : List α → Option R) (G : (List α → Option R) → List α → Int → Option R) (F : Nat → List α → Int → Option R) (n : Int)
  (h : ∀ m x i,F (m + 1) x i = if decide (i < n) then G (fun x=>F m x (W (i + 1))) x i else j x)
  (hG : ∀ k (rp : List α) (x : α) (post : List α),((rp ++ x :: post).length : Int) = n → (∀ y,y ∈ rp ∨ y = x ∨ y ∈ post → y ∈ (rp ++ x :: post)) → G k (rp.reverse ++ x :: post) (rp.length : Int) = k ((Ur lt x rp).reverse ++ post)) :
  ∀ (rest rp : List α) (m : Nat),rest.length < m → ((rp.length + rest.length : Nat) : Int) = n → rp.length + rest.length < 1073741824 →
   F m (rp.reverse ++ rest) (rp.length : Int) = j (Wm lt rest rp).reverse
 | [],rp,m,h1,h2,_=>by
  obtain ⟨m,rfl⟩ : ∃ q,m = q + 1:=⟨m - 1,by omega⟩
  rw [h,if_neg (by simp at h2; simp; omega)]
  simp [Wm]
 | x :: r,rp,m,h1,h2,h3=>by
  obtain ⟨m,rfl⟩ : ∃ q,m = q + 1:=⟨m - 1,by omega⟩
  simp only [List.length_cons] at h1 h2 h3
  rw [h,if_pos (by simp; omega),hG _ rp x r (by simp; omega) (fun y hy=>by simpa using hy),show W ((rp.length : Int) + 1) = ((Ur lt x rp).length : Int) by rw [Ox (by omega) (by omega),DS]; rfl,
   BX lt j G F n h hG r (Ur lt x rp) m (by omega) (by rw [DS]; omega) (by rw [DS]; omega)]
  rfl
omit [Inhabited α] in
theorem MQ (lt : α → α → Bool) (z : α) : ∀ l rp : List α,z ∈ Wm lt l rp ↔ z ∈ l ∨ z ∈ rp
 | [],rp=>by simp [Wm]
 | x :: l,rp=>by
  show z ∈ Wm lt l (Ur lt x rp) ↔ _
  rw [MQ lt z l,AW]
  simp only [List.mem_cons]
  constructor
  ·rintro (h | h | h)
   ·exact .inl (.inr h)
   ·exact .inl (.inl h)
   ·exact .inr h
  ·rintro ((h | h) | h)
   ·exact .inr (.inl h)
   ·exact .inl h
   ·exact .inr (.inr h)
omit [Inhabited α] in
end
end Go.Proofs.YtancihamhcdboaaGreatDoor
namespace Go.Proofs.YtancihamhcdboaaGreatDoor
open Go
section
variable {α β R : Type}
variable [DecidableEq α] [Inhabited α]
theorem eq_l (l : List α) (F : List α → Nat → Option Bool) (h0 : ∀ i,F [] i = some true) (h1 : ∀ y ys i,F (y :: ys) i = Chk (inB (i : Int) l.length) (if !decide (y = nth l (i : Int)) then some false else F ys (i + 1))) : ∀ (ys dn : List α),l = dn ++ ys → F ys dn.length = some true
 | [],dn,_=>h0 _
 | y :: ys,dn,h=>by
  have hlen : l.length = dn.length + (ys.length + 1):=by rw [h]; simp
  have hn : nth l (dn.length : Int) = y:=by rw [h]; exact Xh _ _ _ rfl
  have ih:=eq_l l F h0 h1 ys (dn ++ [y]) (by rw [h]; simp)
  rw [List.length_append] at ih
  rw [h1,PX (Ju.2 (by omega)),hn]
  simpa using ih
end
section
variable {α R : Type} [Inhabited α]
end
end Go.Proofs.YtancihamhcdboaaGreatDoor
namespace Go.Proofs.YtancihamhcdboaaGreatDoor
open Go
theorem TP : ∀ l : List UInt8,Lib.compareBytes l l = 0
 | []=>rfl
 | a :: l=>by
  rw [Lib.compareBytes,if_neg (by simp),if_neg (by simp)]; exact TP l
theorem TQ : ∀ l m : List UInt8,Lib.compareBytes l m = 0 → l = m
 | [],[],_=>rfl
 | [],_ :: _,h=>by simp [Lib.compareBytes] at h
 | _ :: _,[],h=>by simp [Lib.compareBytes] at h
 | a :: l,b :: m,h=>by
  rw [Lib.compareBytes] at h
  split at h
  ·cases h
  ·split at h
   ·cases h
   ·rename_i h1 h2
    rw [UInt8.lt_iff_toNat_lt] at h1 h2
    rw [TQ l m h,show a = b from UInt8.toNat_inj.1 (by omega)]
theorem XL : ∀ l m : List UInt8,Lib.compareBytes l m = -1 ∨ Lib.compareBytes l m = 0 ∨ Lib.compareBytes l m = 1
 | [],[]=>.inr (.inl rfl)
 | [],_ :: _=>.inl rfl
 | _ :: _,[]=>.inr (.inr rfl)
 | a :: l,b :: m=>by
  rw [Lib.compareBytes]
  split
  ·exact .inl rfl
  ·split
   ·exact .inr (.inr rfl)
   ·exact XL l m
theorem TR : ∀ l m : List UInt8,Lib.compareBytes m l = - Lib.compareBytes l m
 | [],[]=>rfl
 | [],_ :: _=>rfl
 | _ :: _,[]=>rfl
 | a :: l,b :: m=>by
  rw [Lib.compareBytes,Lib.compareBytes,TR l m]
  simp only [UInt8.lt_iff_toNat_lt]
  by_cases h1 : a.toNat < b.toNat
  ·rw [if_neg (by omega),if_pos h1,if_pos h1]; rfl
  ·by_cases h2 : b.toNat < a.toNat
   ·rw [if_pos h2,if_neg h1,if_pos h2]
   ·rw [if_neg h2,if_neg h1,if_neg h1,if_neg h2]
theorem PY : ∀ l m k : List UInt8,Lib.compareBytes l m < 0 → Lib.compareBytes m k < 0 → Lib.compareBytes l k < 0
 | l,m,[],_,h=>by cases m <;> simp [Lib.compareBytes] at h
 | [],m,c :: k,_,_=>by simp [Lib.compareBytes]
 | a :: l,[],c :: k,h,_=>by simp [Lib.compareBytes] at h
 | a :: l,b :: m,c :: k,h1,h2=>by
  rw [Lib.compareBytes] at h1 h2 ⊢
  simp only [UInt8.lt_iff_toNat_lt] at h1 h2 ⊢
  by_cases g1 : a.toNat < b.toNat
  ·by_cases g2 : c.toNat < b.toNat
   ·rw [if_neg (by omega),if_pos g2] at h2; cases h2
   ·rw [if_pos (by omega)]; decide
  ·by_cases g1' : b.toNat < a.toNat
   ·rw [if_neg g1,if_pos g1'] at h1; cases h1
   ·rw [if_neg g1,if_neg g1'] at h1
    by_cases g2 : b.toNat < c.toNat
    ·rw [if_pos (by omega)]; decide
    ·by_cases g3 : c.toNat < b.toNat
     ·rw [if_neg g2,if_pos g3] at h2; cases h2
     ·rw [if_neg g2,if_neg g3] at h2
      rw [if_neg (by omega),if_neg (by omega)]
      exact PY l m k h1 h2
def cB (s t : ByteArray) : Int:=Lib.compareBytes s.data.toList t.data.toList
theorem Sz (s : ByteArray) : cB s s = 0:=TP _
theorem GZ {s t : ByteArray} (h : cB s t = 0) : s = t:=by
 have:=TQ _ _ h
 cases s; cases t
 simpa using this
theorem XM (s t : ByteArray) : cB s t = -1 ∨ cB s t = 0 ∨ cB s t = 1:=XL _ _
theorem HA (s t : ByteArray) : cB t s = - cB s t:=TR _ _
theorem AX {s t u : ByteArray} (h1 : cB s t < 0) (h2 : cB t u < 0) : cB s u < 0:=PY _ _ _ h1 h2
theorem HB : ∀ l m : List UInt8,Op.bytesLess l m = decide (Lib.compareBytes l m < 0)
 | [],[]=>rfl
 | [],_ :: _=>rfl
 | _ :: _,[]=>rfl
 | a :: l,b :: m=>by
  rw [Op.bytesLess,Lib.compareBytes]
  simp only [UInt8.lt_iff_toNat_lt]
  by_cases h1 : a.toNat < b.toNat
  ·simp [h1]
  ·by_cases h2 : b.toNat < a.toNat
   ·have : a ≠ b:=by rintro rfl; omega
    simp [h1,h2,this]
   ·have : a = b:=UInt8.toNat_inj.1 (by omega)
    simp [this,HB l m]
theorem XN (s t : ByteArray) : FZ s t = decide (cB s t < 0):=by
 unfold FZ cB
 rw [HB,ByteArray.toList_eq,ByteArray.toList_eq]
end Go.Proofs.YtancihamhcdboaaGreatDoor
namespace Go.Proofs.YtancihamhcdboaaGreatDoor
open Go
structure DG (d : Dx) : Prop where
 no : 1 ≤ d.No ∧ d.No ≤ 1000000
 at_ : 0 ≤ d.At ∧ d.At < 345686400000
 kind : d.Kind = 1 ∨ d.Kind = 2 ∨ d.Kind = 3 ∨ d.Kind = 4
 site : Gy d.Site = some true
 who : d.Kind ≠ 4 → Gy d.Who = some true ∧ Gy d.Race = some true
 club : d.Kind = 1 → d.Club = An ∨ Gy d.Club = some true
 time : d.Kind = 1 ∨ d.Kind = 3 → 0 ≤ d.Time ∧ d.Time ≤ 360000
 fault : d.Kind = 3 → 0 ≤ d.Fault ∧ d.Fault ≤ 8
 of_ : d.Kind = 4 → Gy d.Of = some true ∧ 1 ≤ d.Other ∧ d.Other ≤ 1000000
 form : d = if d.Kind = 1 then Dx.mk d.Site d.No d.At d.Kind d.Who d.Club d.Race d.Time 0 An 0 else
  if d.Kind = 3 then Dx.mk d.Site d.No d.At d.Kind d.Who An d.Race d.Time d.Fault An 0 else
  if d.Kind = 4 then Dx.mk d.Site d.No d.At d.Kind An An An 0 0 d.Of d.Other else Dx.mk d.Site d.No d.At d.Kind d.Who An d.Race 0 0 An 0
theorem inW {n l h : Int} : Ed n l h = true ↔ l ≤ n ∧ n ≤ h:=by unfold Ed; simp
theorem VP (d : Dx) : ∃ e,Ro d = some e ∧ Rl d = some e ∧ (e = 0 → DG d):=by
 obtain ⟨kS,s1,s2⟩:=Xg d.Site
 obtain ⟨kW,w1,w2⟩:=Xg d.Who
 obtain ⟨kR,r1,r2⟩:=Xg d.Race
 obtain ⟨kC,c1,c2⟩:=Xg d.Club
 obtain ⟨kO,o1,o2⟩:=Xg d.Of
 have hw : Le = Ed:=rfl
 have hm : Qo d.At = Iz d.At:=by
  unfold Qo Le Iz
  congr 1
  exact decide_eq_decide.2 (by omega)
 unfold Ro Rl
 simp only [s1,s2,w1,w2,r1,r2,c1,c2,o1,o2,hw,hm,Kt,Option.bind_some]
 cases kS with
 | false=>exact ⟨5,by simp,by simp,fun h=>by cases h⟩
 | true =>
  simp only [Bool.not_true,Bool.false_eq_true,if_false]
  by_cases hA : (!Ed d.No 1 1000000 || !Iz d.At) = true
  ·rw [if_pos hA,if_pos hA]; exact ⟨1,rfl,rfl,fun h=>by cases h⟩
  ·rw [if_neg hA,if_neg hA]
   simp only [Bool.or_eq_true,not_or,Bool.not_eq_true,Bool.not_eq_false'] at hA
   have hno:=inW.1 hA.1
   have hat : 0 ≤ d.At ∧ d.At < 345686400000:=by have:=hA.2; unfold Iz at this; simpa using this
   by_cases hK : (!Ed d.Kind 1 4) = true
   ·rw [if_pos hK,if_pos hK]; exact ⟨4,rfl,rfl,fun h=>by cases h⟩
   ·rw [if_neg hK,if_neg hK]
    have hk4 : d.Kind = 1 ∨ d.Kind = 2 ∨ d.Kind = 3 ∨ d.Kind = 4:=by
     have:=inW.1 (by simpa using hK : Ed d.Kind 1 4 = true)
     omega
    rcases hk4 with hk | hk | hk | hk
    ·simp only [hk,show decide ((1 : Int) = 1) = true from rfl,show decide ((1 : Int) = 3) = false from rfl,show decide ((1 : Int) = 4) = false from rfl]
     cases kW <;> cases kR <;> cases kC <;> cases hc : decide (d.Club = An) <;> cases ht : Ed d.Time 0 360000 <;> cases hf : decide (d = Dx.mk d.Site d.No d.At 1 d.Who d.Club d.Race d.Time 0 An 0) <;> (try simp only [decide_true,decide_false,Bool.not_true,Bool.not_false,Bool.true_and,Bool.false_and,Bool.and_true,Bool.and_false,Bool.or_false,Bool.false_or,Bool.true_or,Bool.or_true,Bool.and_self,Bool.or_self,if_true,Bool.false_eq_true,if_false]) <;>
      first | exact ⟨5,rfl,rfl,fun h=>by cases h⟩ | exact ⟨1,rfl,rfl,fun h=>by cases h⟩ | exact ⟨3,rfl,rfl,fun h=>by cases h⟩ |
       exact ⟨0,rfl,rfl,fun _=>⟨hno,hat,by omega,s1,fun _=>⟨w1,r1⟩,fun _=>by first | exact .inl (of_decide_eq_true hc) | exact .inr c1,fun _=>inW.1 ht,fun h=>by omega,fun h=>by omega,by rw [if_pos hk,hk]; exact of_decide_eq_true hf⟩⟩
    ·simp only [hk,show decide ((2 : Int) = 1) = false from rfl,show decide ((2 : Int) = 3) = false from rfl,show decide ((2 : Int) = 4) = false from rfl]
     cases kW <;> cases kR <;> cases hf : decide (d = Dx.mk d.Site d.No d.At 2 d.Who An d.Race 0 0 An 0) <;> (try simp only [decide_true,decide_false,Bool.not_true,Bool.not_false,Bool.true_and,Bool.false_and,Bool.and_true,Bool.and_false,Bool.or_false,Bool.false_or,Bool.true_or,Bool.or_true,Bool.and_self,Bool.or_self,if_true,Bool.false_eq_true,if_false]) <;>
      first | exact ⟨5,rfl,rfl,fun h=>by cases h⟩ | exact ⟨1,rfl,rfl,fun h=>by cases h⟩ | exact ⟨3,rfl,rfl,fun h=>by cases h⟩ |
       exact ⟨0,rfl,rfl,fun _=>⟨hno,hat,by omega,s1,fun _=>⟨w1,r1⟩,fun h=>by omega,fun h=>by omega,fun h=>by omega,fun h=>by omega,by rw [if_neg (by omega),if_neg (by omega),if_neg (by omega),hk]; exact of_decide_eq_true hf⟩⟩
    ·simp only [hk,show decide ((3 : Int) = 1) = false from rfl,show decide ((3 : Int) = 3) = true from rfl,show decide ((3 : Int) = 4) = false from rfl]
     cases kW <;> cases kR <;> cases ht : Ed d.Time 0 360000 <;> cases hu : Ed d.Fault 0 8 <;> cases hf : decide (d = Dx.mk d.Site d.No d.At 3 d.Who An d.Race d.Time d.Fault An 0) <;> (try simp only [decide_true,decide_false,Bool.not_true,Bool.not_false,Bool.true_and,Bool.false_and,Bool.and_true,Bool.and_false,Bool.or_false,Bool.false_or,Bool.true_or,Bool.or_true,Bool.and_self,Bool.or_self,if_true,Bool.false_eq_true,if_false]) <;>
      first | exact ⟨5,rfl,rfl,fun h=>by cases h⟩ | exact ⟨1,rfl,rfl,fun h=>by cases h⟩ | exact ⟨3,rfl,rfl,fun h=>by cases h⟩ |
       exact ⟨0,rfl,rfl,fun _=>⟨hno,hat,by omega,s1,fun _=>⟨w1,r1⟩,fun h=>by omega,fun _=>inW.1 ht,fun _=>inW.1 hu,fun h=>by omega,by rw [if_neg (by omega),if_pos hk,hk]; exact of_decide_eq_true hf⟩⟩
    ·simp only [hk,show decide ((4 : Int) = 1) = false from rfl,show decide ((4 : Int) = 3) = false from rfl,show decide ((4 : Int) = 4) = true from rfl]
     cases kO <;> cases ho : Ed d.Other 1 1000000 <;> cases hf : decide (d = Dx.mk d.Site d.No d.At 4 An An An 0 0 d.Of d.Other) <;> (try simp only [decide_true,decide_false,Bool.not_true,Bool.not_false,Bool.true_and,Bool.false_and,Bool.and_true,Bool.and_false,Bool.or_false,Bool.false_or,Bool.true_or,Bool.or_true,Bool.and_self,Bool.or_self,if_true,Bool.false_eq_true,if_false]) <;>
      first | exact ⟨5,rfl,rfl,fun h=>by cases h⟩ | exact ⟨1,rfl,rfl,fun h=>by cases h⟩ | exact ⟨3,rfl,rfl,fun h=>by cases h⟩ |
       exact ⟨0,rfl,rfl,fun _=>⟨hno,hat,by omega,s1,fun h=>absurd hk h,fun h=>by omega,fun h=>by omega,fun h=>by omega,fun _=>⟨o1,inW.1 ho⟩,by rw [if_neg (by omega),if_neg (by omega),if_pos hk,hk]; exact of_decide_eq_true hf⟩⟩
theorem KF (y : Dx) : ∀ (l : List Dx) (i : Nat),decide (0 ≤ Fl y (-1) l i) = decide (En y ∈ l.map En)
 | [],i=>by simp [Fl]
 | z :: l,i=>by
  have ih:=KF y l (i + 1)
  rw [Fl]
  have hp : Ps z y = decide (En y = En z):=by
   unfold Ps Wd En
   rw [Bool.eq_iff_iff]
   simp only [Bool.and_eq_true,decide_eq_true_eq,Eo.mk.injEq]
   exact ⟨fun h=>⟨h.1.symm,h.2.symm⟩,fun h=>⟨h.1.symm,h.2.symm⟩⟩
  rw [hp]
  by_cases h : En y = En z
  ·rw [if_pos (decide_eq_true h),decide_eq_true (show 0 ≤ (i : Int) by omega),decide_eq_true (by simp [h])]
  ·rw [if_neg (by simpa using h),ih]
   exact decide_eq_decide.2 (by simp [h])
theorem MR (l : List Dx) : ∀ (ys dn : List Dx),l = dn ++ ys → (dn.map En).Nodup → Jc l (some 0) ys dn.length = some (if (l.map En).Nodup then 0 else 6)
 | [],dn,h,hd=>by
  rw [List.append_nil] at h
  subst h
  rw [if_pos hd]; rfl
 | y :: ys,dn,h,hd=>by
  have hlen : l.length = dn.length + (ys.length + 1):=by rw [h]; simp
  rw [Jc,Gn (Wn.2 (by omega))]
  have hc : cut l 0 (dn.length : Int) = dn:=by unfold cut; rw [h]; simp
  have hq : Jk dn y = decide (En y ∈ dn.map En):=KF y dn 0
  rw [hc,hq]
  by_cases hm : En y ∈ dn.map En
  ·rw [if_pos (decide_eq_true hm),if_neg]
   intro hn
   rw [h,List.map_append,List.nodup_append] at hn
   exact hn.2.2 _ hm _ (by simp) rfl
  ·rw [if_neg (by simpa using hm)]
   have ih:=MR l ys (dn ++ [y]) (by rw [h]; simp) (by
    rw [List.map_append,List.nodup_append]
    refine ⟨hd,by simp,?_⟩
    intro a ha b hb
    simp only [List.map_cons,List.map_nil,List.mem_singleton] at hb
    subst hb
    exact fun e=>hm (e ▸ ha))
   rwa [List.length_append] at ih
theorem cmpID (x y : Int) : Kr x y = if x < y then -1 else if y < x then 1 else 0:=by
 unfold Kr Uf
 simp
theorem orD3 (a b c : Int) : Uw [a,b,c] = if a ≠ 0 then a else if b ≠ 0 then b else c:=by
 unfold Uw
 simp only [Kt,Nh]
 by_cases h1 : a = 0
 ·by_cases h2 : b = 0
  ·by_cases h3 : c = 0 <;> simp [h1,h2,h3]
  ·simp [h1,h2]
 ·simp [h1]
theorem PZ (p q : Dx) : Kj p q = if p.At < q.At then -1 else if q.At < p.At then 1 else if cB p.Site q.Site ≠ 0 then cB p.Site q.Site else if p.No < q.No then -1 else if q.No < p.No then 1 else 0:=by
 unfold Kj
 rw [orD3,cmpID,cmpID]
 have hc : Hw p.Site q.Site = cB p.Site q.Site:=rfl
 rw [hc]
 by_cases h1 : p.At < q.At
 ·simp [h1]
 ·by_cases h2 : q.At < p.At
  ·simp [h1,h2]
  ·simp [h1,h2]
theorem orderD (p q : Dx) (hp : DG p) (hq : DG q) : Ke p q = Kj p q:=by
 rw [PZ]
 have a1:=hp.no
 have a2:=hp.at_
 have b1:=hq.no
 have b2:=hq.at_
 unfold Ke Vx
 have hc : Hw p.Site q.Site = cB p.Site q.Site:=rfl
 have hW1 : W (p.At - q.At) = p.At - q.At:=Ox (by omega) (by omega)
 have hW2 : W (p.No - q.No) = p.No - q.No:=Ox (by omega) (by omega)
 rw [hc,hW1,hW2]
 simp only [decide_eq_true_eq,Bool.not_eq_true',decide_eq_false_iff_not]
 by_cases h1 : p.At = q.At
 ·rw [if_neg (fun h=>h h1),if_neg (show ¬ p.At < q.At by omega),if_neg (show ¬ q.At < p.At by omega)]
  by_cases h2 : p.Site = q.Site
  ·simp only [h2,Sz,not_true_eq_false,if_false,ne_eq]
   split <;> split <;> (try split) <;> (try split) <;> omega
  ·rw [if_pos h2,if_pos (fun e=>h2 (GZ e))]
 ·rw [if_pos h1]
  split <;> split <;> (try split) <;> (try split) <;> omega
abbrev RV (l : List Dx) : Prop:=∀ d x y r,l = d ++ x :: y :: r → Kj x y < 0
theorem XO (l : List Dx) (hl : l.length ≤ 1000000) (j : List (Eo × Bool) → Bool → Option Int) (j' : Option Int) : ∀ (ys dn : List Dx) (m : List (Eo × Bool)) (t : Bool),l = dn ++ ys → (∀ x ∈ dn,DG x) →
  (∀ e,El m e false = decide (e ∈ dn.map En)) → t = decide (¬ (dn.map En).Nodup) → (∀ d x y r,dn = d ++ x :: y :: r → Kj x y < 0) →
  (∃ e,e ≠ 0 ∧ Ir l j ys dn.length m t = some e ∧ Ip l j' ys dn.length = some e) ∨
  (∃ m',Ir l j ys dn.length m t = j m' (decide (¬ (l.map En).Nodup)) ∧ Ip l j' ys dn.length = j' ∧ (∀ x ∈ l,DG x) ∧ RV l)
 | [],dn,m,t,h,hg,hm,ht,ha=>by
  rw [List.append_nil] at h
  subst h
  exact .inr ⟨m,by rw [Ir,ht],rfl,hg,ha⟩
 | y :: ys,dn,m,t,h,hg,hm,ht,ha=>by
  have hlen : l.length = dn.length + (ys.length + 1):=by rw [h]; simp
  obtain ⟨e,e1,e2,e3⟩:=VP y
  rw [Ir,Ip,e1,e2]
  simp only [Option.bind_some,Kt]
  by_cases he : e = 0
  ·subst he
   have hy:=e3 rfl
   simp only [decide_true,Bool.not_true,Bool.false_eq_true,if_false]
   have go : (∀ d x,dn = d ++ [x] → Kj x y < 0) →
     (∃ e,e ≠ 0 ∧ Ir l j ys (dn.length + 1) (Gw m (En y) true) (t || El m (En y) false) = some e ∧ Ip l j' ys (dn.length + 1) = some e) ∨
     (∃ m',Ir l j ys (dn.length + 1) (Gw m (En y) true) (t || El m (En y) false) = j m' (decide (¬ (l.map En).Nodup)) ∧ Ip l j' ys (dn.length + 1) = j' ∧ (∀ x ∈ l,DG x) ∧ RV l):=fun hadj=>by
    have:=XO l hl j j' ys (dn ++ [y]) (Gw m (En y) true) (t || El m (En y) false) (by rw [h]; simp) (fun x hx=>by
     rcases List.mem_append.1 hx with hx | hx
     ·exact hg x hx
     ·obtain rfl:=List.mem_singleton.1 hx; exact hy) (fun e=>by
     rw [Yc,hm e]
     by_cases h1 : e = En y
     ·rw [if_pos h1]; exact (decide_eq_true (by simp [h1])).symm
     ·rw [if_neg h1]; exact decide_eq_decide.2 (by simp [h1])) (by
     rw [ht,hm,Bool.eq_iff_iff]
     simp only [Bool.or_eq_true,decide_eq_true_eq,List.map_append,List.map_cons,List.map_nil,List.nodup_append]
     constructor
     ·rintro (h1 | h1) h2
      ·exact h1 h2.1
      ·exact h2.2.2 _ h1 _ (by simp) rfl
     ·intro h1
      by_cases h2 : (dn.map En).Nodup
      ·refine .inr (Classical.byContradiction fun h3=>h1 ⟨h2,by simp,fun a ha b hb=>?_⟩)
       obtain rfl:=List.mem_singleton.1 hb
       exact fun e=>h3 (e ▸ ha)
      ·exact .inl h2) (fun d x z r hd=>by
     rcases List.eq_nil_or_concat r with rfl | ⟨r',b,rfl⟩
     ·have h1 : dn ++ [y] = (d ++ [x]) ++ [z]:=by rw [hd]; simp
      obtain ⟨h2,h3⟩:=List.append_inj' h1 rfl
      obtain rfl:=(List.cons.inj h3).1
      exact hadj d x h2
     ·have h1 : dn ++ [y] = (d ++ x :: z :: r') ++ [b]:=by rw [hd]; simp
      exact ha d x z r' (List.append_inj' h1 rfl).1)
    rwa [List.length_append,List.length_singleton] at this
   by_cases h0 : (0 : Int) < (dn.length : Int)
   ·obtain ⟨d,x,hdx⟩ : ∃ d x,dn = d ++ [x]:=by
     rcases List.eq_nil_or_concat dn with h1 | ⟨d,x,h1⟩
     ·rw [h1] at h0; simp at h0
     ·exact ⟨d,x,by rw [h1]; simp⟩
    have hdl : dn.length = d.length + 1:=by rw [hdx]; simp
    have hw : W ((dn.length : Int) - 1) = (d.length : Int):=by rw [Ox (by omega) (by omega)]; omega
    have hn : nth l (d.length : Int) = x:=by rw [h,hdx]; unfold nth; simp
    have hx:=hg x (by rw [hdx]; simp)
    simp only [h0,decide_true,if_true,hw,Gn (show inB (d.length : Int) l.length = true from Ju.2 (by omega)),hn,orderD x y hx hy]
    by_cases hc : 0 ≤ Kj x y
    ·rw [if_pos (decide_eq_true hc),if_pos (decide_eq_true hc)]
     exact .inl ⟨7,by decide,rfl,rfl⟩
    ·rw [if_neg (by simpa using hc),if_neg (by simpa using hc)]
     refine go fun d' x' h'=>?_
     rw [hdx] at h'
     obtain ⟨_,h3⟩:=List.append_inj' h' rfl
     obtain rfl:=(List.cons.inj h3).1
     omega
   ·simp only [h0,decide_false,Bool.false_eq_true,if_false]
    refine go fun d' x' h'=>?_
    rw [h'] at h0
    simp at h0
  ·rw [if_pos (by simpa using he),if_pos (by simpa using he)]
   exact .inl ⟨e,he,rfl,rfl⟩
structure DsG (l : List Dx) : Prop where
 len : l.length ≤ 2000
 each : ∀ x ∈ l,DG x
 adj : RV l
 nodup : (l.map En).Nodup
theorem RW (l : List Dx) : ∃ e,Ot l = some e ∧ Qq l = some e ∧ (e = 0 → DsG l):=by
 unfold Ot Qq
 by_cases h : 2000 < (l.length : Int)
 ·rw [if_pos (decide_eq_true h),if_pos (decide_eq_true h)]; exact ⟨2,rfl,rfl,fun h=>by cases h⟩
 ·rw [if_neg (by simpa using h),if_neg (by simpa using h)]
  simp only [Kt]
  have h2:=MR l l [] rfl List.nodup_nil
  rcases XO l (by omega) (fun x1 x2=>if x2 then some 6 else some 0) (Jc l (some 0) l 0) l [] [] false rfl (by simp) (fun e=>by simp [El,Pi,Od]) (by simp) (by simp) with ⟨e,he,q1,q2⟩ | ⟨m',q1,q2,q3,q4⟩
  ·exact ⟨e,q1,q2,fun h=>absurd h he⟩
  ·rw [show ([] : List Dx).length = 0 from rfl] at q1 q2 h2
   rw [q1,q2,h2]
   by_cases hn : (l.map En).Nodup
   ·exact ⟨0,by simp [hn],by simp [hn],fun _=>⟨by omega,q3,q4,hn⟩⟩
   ·exact ⟨6,by simp [hn],by simp [hn],fun h=>by cases h⟩
end Go.Proofs.YtancihamhcdboaaGreatDoor
namespace Go.Proofs.YtancihamhcdboaaGreatDoor
open Go
section
variable {α : Type}
theorem MS {lt : α → α → Bool} (ht : ∀ x y z,lt x y = true → lt y z = true → lt x z = true) (x : α) : ∀ rp : List α,rp.Pairwise (fun a b=>lt b a = true) → (∀ y ∈ rp,lt x y = false → lt y x = true) → (Ur lt x rp).Pairwise fun a b=>lt b a = true
 | [],_,_=>by simp [Ur]
 | y :: r,h,hx=>by
  rw [List.pairwise_cons] at h
  unfold Ur
  cases hxy : lt x y with
  | true =>
   rw [if_pos rfl]
   refine List.pairwise_cons.2 ⟨fun z hz=>?_,MS ht x r h.2 fun z hz=>hx z (List.mem_cons_of_mem _ hz)⟩
   rcases (AW lt x z r).1 hz with rfl | hz
   ·exact hxy
   ·exact h.1 z hz
  | false =>
   rw [if_neg (by simp)]
   have h1:=hx y (by simp) hxy
   refine List.pairwise_cons.2 ⟨fun z hz=>?_,List.pairwise_cons.2 h⟩
   rcases List.mem_cons.1 hz with rfl | hz
   ·exact h1
   ·exact ht z y x (h.1 z hz) h1
theorem KG {lt : α → α → Bool} (ht : ∀ x y z,lt x y = true → lt y z = true → lt x z = true) : ∀ l rp : List α,rp.Pairwise (fun a b=>lt b a = true) → (∀ x ∈ l,∀ y ∈ rp,lt x y = false → lt y x = true) → l.Pairwise (fun a b=>lt b a = false → lt a b = true) →
  (Wm lt l rp).Pairwise fun a b=>lt b a = true
 | [],rp,h,_,_=>h
 | x :: l,rp,h,h1,h2=>by
  rw [List.pairwise_cons] at h2
  show (Wm lt l (Ur lt x rp)).Pairwise _
  refine KG ht l _ (MS ht x rp h (h1 x (by simp))) (fun z hz y hy=>?_) h2.2
  rcases (AW lt x y rp).1 hy with rfl | hy
  ·exact h2.1 z hz
  ·exact h1 z (List.mem_cons_of_mem _ hz) y hy
theorem AY {lt : α → α → Bool} (ht : ∀ x y z,lt x y = true → lt y z = true → lt x z = true) (l : List α) (h : l.Pairwise fun a b=>lt b a = false → lt a b = true) : (Pv lt l).Pairwise fun a b=>lt a b = true:=by
 unfold Pv
 rw [List.pairwise_reverse]
 exact KG ht l [] List.Pairwise.nil (fun _ _ _ h=>by cases h) h
theorem Xt (lt : α → α → Bool) (l : List α) (z : α) : z ∈ Pv lt l ↔ z ∈ l:=by
 unfold Pv
 rw [List.mem_reverse,MQ]
 simp
theorem TS {lt : α → α → Bool} (hi : ∀ x,lt x x = false) (ht : ∀ x y z,lt x y = true → lt y z = true → lt x z = true) : ∀ A B : List α,A.Pairwise (fun a b=>lt a b = true) → B.Pairwise (fun a b=>lt a b = true) → (∀ x,x ∈ A ↔ x ∈ B) → A = B
 | [],[],_,_,_=>rfl
 | [],b :: B,_,_,h=>by have:=(h b).2 (by simp); cases this
 | a :: A,[],_,_,h=>by have:=(h a).1 (by simp); cases this
 | a :: A,b :: B,hA,hB,h=>by
  rw [List.pairwise_cons] at hA hB
  have hab : a = b:=by
   rcases List.mem_cons.1 ((h a).1 (by simp)) with e | h1
   ·exact e
   ·rcases List.mem_cons.1 ((h b).2 (by simp)) with e | h2
    ·exact e.symm
    ·have:=ht a b a (hA.1 b h2) (hB.1 a h1)
     rw [hi] at this
     cases this
  subst hab
  have : A = B:=TS hi ht A B hA.2 hB.2 fun x=>by
   have hx:=h x
   constructor
   ·intro hm
    rcases List.mem_cons.1 (hx.1 (List.mem_cons_of_mem _ hm)) with rfl | h3
    ·have:=hA.1 x hm; rw [hi] at this; cases this
    ·exact h3
   ·intro hm
    rcases List.mem_cons.1 (hx.2 (List.mem_cons_of_mem _ hm)) with rfl | h3
    ·have:=hB.1 x hm; rw [hi] at this; cases this
    ·exact h3
  rw [this]
theorem KH (lt : α → α → Bool) : ∀ l rp : List α,(Wm lt l rp).length = l.length + rp.length
 | [],rp=>by simp [Wm]
 | x :: l,rp=>by
  show (Wm lt l (Ur lt x rp)).length = _
  rw [KH lt l,DS]
  simp only [List.length_cons]
  omega
theorem Xu (lt : α → α → Bool) (l : List α) : (Pv lt l).length = l.length:=by
 unfold Pv
 rw [List.length_reverse,KH]
 simp
theorem HC {lt : α → α → Bool} (hi : ∀ x,lt x x = false) (ht : ∀ x y z,lt x y = true → lt y z = true → lt x z = true) (A B : List α) (h : A.Pairwise fun a b=>lt b a = false → lt a b = true) (hB : B.Pairwise fun a b=>lt a b = true) (hm : ∀ x,x ∈ A ↔ x ∈ B) : Pv lt A = B :=
 TS hi ht _ _ (AY ht A h) hB fun x=>by rw [Xt,hm]
theorem FU {lt lt' : α → α → Bool} (x : α) : ∀ rp : List α,(∀ y ∈ rp,lt x y = lt' x y) → Ur lt x rp = Ur lt' x rp
 | [],_=>rfl
 | y :: r,h=>by
  unfold Ur
  rw [h y (by simp),FU x r fun z hz=>h z (List.mem_cons_of_mem _ hz)]
theorem IM {lt lt' : α → α → Bool} : ∀ l rp : List α,(∀ x ∈ l,∀ y,y ∈ l ∨ y ∈ rp → lt x y = lt' x y) → Wm lt l rp = Wm lt' l rp
 | [],_,_=>rfl
 | x :: l,rp,h=>by
  show Wm lt l (Ur lt x rp) = Wm lt' l (Ur lt' x rp)
  rw [FU x rp fun y hy=>h x (by simp) y (.inr hy)]
  refine IM l _ fun z hz y hy=>h z (List.mem_cons_of_mem _ hz) y ?_
  rcases hy with hy | hy
  ·exact .inl (List.mem_cons_of_mem _ hy)
  ·rcases (AW lt' x y rp).1 hy with rfl | hy
   ·exact .inl (by simp)
   ·exact .inr hy
theorem IP {lt lt' : α → α → Bool} (l : List α) (h : ∀ x ∈ l,∀ y ∈ l,lt x y = lt' x y) : Pv lt l = Pv lt' l:=by
 unfold Pv
 rw [IM l [] fun x hx y hy=>h x hx y (by rcases hy with hy | hy; exact hy; cases hy)]
theorem MT (lt : α → α → Bool) (x : α) : ∀ rp : List α,(Ur lt x rp).Perm (x :: rp)
 | []=>List.Perm.refl _
 | y :: r=>by
  unfold Ur
  split
  ·exact ((MT lt x r).cons y).trans (List.Perm.swap x y r)
  ·exact List.Perm.refl _
theorem KI (lt : α → α → Bool) : ∀ l rp : List α,(Wm lt l rp).Perm (l ++ rp)
 | [],_=>List.Perm.refl _
 | x :: l,rp=>(KI lt l (Ur lt x rp)).trans (((MT lt x rp).append_left l).trans List.perm_middle)
theorem RX (lt : α → α → Bool) (l : List α) : (Pv lt l).Perm l:=by
 have h:=KI lt l []
 rw [List.append_nil] at h
 exact (List.reverse_perm _).trans h
def nbF [DecidableEq α] (p : α) : List α → List α
 | []=>[]
 | y :: r=>if y = p then nbF y r else y :: nbF y r
def nb [DecidableEq α] : List α → List α
 | []=>[]
 | x :: r=>x :: nbF x r
variable {R : Type} [Inhabited α]
end
end Go.Proofs.YtancihamhcdboaaGreatDoor
namespace Go.Proofs.YtancihamhcdboaaGreatDoor
open Go
def Dr {α : Type} (a k : Int) (Q : α → Prop) (o : Option (α × Int)) : Prop:=∃ v b,o = some (v,b) ∧ a ≤ b ∧ b ≤ a + k ∧ Q v
abbrev HD (L : List Int) : Prop:=(L.length : Int) ≤ 9223372036854775807
section
variable {L : List Int} (hL : HD L) {a : Int} (h0 : 0 ≤ a) (h1 : a ≤ 1000000000000)
include hL h0 h1
theorem next_dr (n : Int) (hn : n ≤ 4611686018427387904) : Dr a 1 (fun v=>0 ≤ v ∧ (v < n ∨ (n < 1 ∧ v = 0))) (Qw L a n):=by
 obtain ⟨v,e,g⟩:=EH L a n h0 (by omega) hL hn
 exact ⟨v,a + 1,e,by omega,by omega,g⟩
theorem Ta (l : List Int) (hl : 0 < l.length) (hl' : l.length ≤ 1000) : Dr a 1 (fun v=>v ∈ l) (Kh L a l):=by
 obtain ⟨v,e,g⟩:=TM L a l h0 (by omega) hL hl hl'
 exact ⟨v,a + 1,e,by omega,by omega,g⟩
theorem TT (n : Int) (hn : n ≤ 4611686018427387904) : Dr a 1 (fun _=>True) (Tg L a n):=by
 obtain ⟨v,e⟩:=TN L a n h0 (by omega) hL hn
 exact ⟨v,a + 1,e,by omega,by omega,trivial⟩
theorem Yz (l : List ByteArray) (hl : 0 < l.length) (hl' : l.length ≤ 1000) : Dr a 1 (fun v=>v ∈ l) (Pb L a l):=by
 obtain ⟨v,e1,h1,h2⟩:=EH L a (l.length : Int) h0 (by omega) hL (by omega)
 have hc : inB v l.length = true:=Ju.2 ⟨h1,by omega⟩
 unfold Pb
 rw [e1]
 simp only [Option.bind_some]
 rw [Gn hc]
 exact ⟨nth l v,a + 1,rfl,by omega,by omega,List.mem_of_getElem? (Eh hc).1⟩
theorem DT (low high : Int) (h2 : -1000000000000 ≤ low) (h3 : low ≤ 1000000000000) (h4 : high ≤ 1000000000000) : Dr a 1 (fun v=>low ≤ v ∧ (v ≤ high ∨ v = low)) (Pq L a low high):=by
 unfold Pq
 by_cases h : high < low
 ·exact ⟨low,a,by simp [h],by omega,by omega,by omega,.inr rfl⟩
 ·have w1 : W (high - low) = high - low:=Ox (by omega) (by omega)
  have w2 : W (high - low + 1) = high - low + 1:=Ox (by omega) (by omega)
  obtain ⟨v,e,g1,g2⟩:=EH L a (high - low + 1) h0 (by omega) hL (by omega)
  rw [if_neg (by simpa using h),w1,w2,e]
  have w3 : W (low + v) = low + v:=Ox (by omega) (by omega)
  exact ⟨_,_,rfl,by show a ≤ a + 1; omega,by show a + 1 ≤ a + 1; omega,by simp only [w3]; omega⟩
theorem KJ (low high : Int) (h2 : -1000000000000 ≤ low) (h3 : low ≤ 1000000000000) (h4 : high ≤ 1000000000000) : Dr a 2 (fun _=>True) (Tj L a low high):=by
 obtain ⟨b,e1⟩:=TN L a 12 h0 (by omega) hL (by omega)
 unfold Tj
 rw [e1]
 simp only [Option.bind_some]
 cases b with
 | true =>
  obtain ⟨v,e,_⟩:=TM L (a + 1) [W (low - 1),W (high + 1),low,high,(-1099511627776),1099511627776] (by omega) (by omega) hL (by simp) (by simp)
  rw [if_pos rfl,e]
  exact ⟨_,_,rfl,by show a ≤ a + 1 + 1; omega,by show a + 1 + 1 ≤ a + 2; omega,trivial⟩
 | false =>
  unfold Pq
  by_cases h : high < low
  ·rw [if_neg (by simp),if_pos (by simpa using h)]
   exact ⟨_,_,rfl,by show a ≤ a + 1; omega,by show a + 1 ≤ a + 2; omega,trivial⟩
  ·have w1 : W (high - low) = high - low:=Ox (by omega) (by omega)
   have w2 : W (high - low + 1) = high - low + 1:=Ox (by omega) (by omega)
   obtain ⟨v,e,g1,g2⟩:=EH L (a + 1) (high - low + 1) (by omega) (by omega) hL (by omega)
   rw [if_neg (by simp),if_neg (by simpa using h),w1,w2,e]
   exact ⟨_,_,rfl,by show a ≤ a + 1 + 1; omega,by show a + 1 + 1 ≤ a + 2; omega,trivial⟩
end
end Go.Proofs.YtancihamhcdboaaGreatDoor
namespace Go.Proofs.YtancihamhcdboaaGreatDoor
open Go
def ltD (x y : Dx) : Bool:=decide (Kj x y < 0)
theorem VQ (l : List Dx) (hl : l.length ≤ 12) : Ix l 0 (l.length : Int) = some (Pv ltD l):=by
 unfold Ix
 simp only [Og]
 have hins : ∀ (k : List Dx → Option (List Dx)) (rp : List Dx) (x : Dx) (post : List Dx),((rp ++ x :: post).length : Int) = (l.length : Int) → (∀ y,y ∈ rp ∨ y = x ∨ y ∈ post → y ∈ (rp ++ x :: post)) →
   Fi 0 k (((rp.length : Int) - 0).toNat + 2) (rp.reverse ++ x :: post) (rp.length : Int) = k ((Ur ltD x rp).reverse ++ post):=by
  intro k rp x post h1 _
  exact KE (fun x y k=>k (decide (Kj x y < 0))) ltD k (Fi 0 k) (fun _ _ _=>rfl) rp x post _ (by omega) (by simp at h1; omega) fun y _ k'=>rfl
 cases l with
 | nil=>rfl
 | cons x l =>
  have hw : W (0 + 1) = (([x] : List Dx).length : Int):=rfl
  rw [hw]
  exact BX ltD (fun x=>some x) (fun k x i=>Fi 0 k ((i - 0).toNat + 2) x i) (Gg ((x :: l).length : Int) 0 fun x=>some x) ((x :: l).length : Int) (fun _ _ _=>rfl)
   (fun k rp x post h1 h2=>hins k rp x post h1 h2) l [x] _ (by simp only [List.length_cons,List.length_nil]; omega) (by simp only [List.length_cons,List.length_nil]; omega) (by simp only [List.length_cons,List.length_nil] at hl ⊢; omega)
theorem XP : ∀ n : Fin 13,(AJ (IntKind.wrap .u64 (n.val : Int))).isSome = true:=by decide +kernel
theorem XQ (l : List Dx) (hl : l.length ≤ 12) : Jq l = some (Pv ltD l):=by
 unfold Jq
 obtain ⟨r,hr⟩:=Option.isSome_iff_exists.1 (XP ⟨l.length,by omega⟩)
 simp only at hr
 rw [hr]
 simp only [Option.bind_some]
 unfold Ll
 rw [show (4611686018427387904 : Nat) = 4611686018427387903 + 1 from rfl,Hk,Ox (by omega) (by omega),if_pos (decide_eq_true (by omega)),VQ l hl]
 rfl
def ltR (x y : Dx) : Bool:=decide (Ke x y < 0)
theorem RY (l : List Dx) (hl : l.length ≤ 19) : Ig l = some (Pv ltR l):=by
 have hs : Hp l 0 (l.length : Int) = some (Pv ltR l):=by
  unfold Hp
  simp only [Og]
  have hins : ∀ (k : List Dx → Option (List Dx)) (rp : List Dx) (x : Dx) (post : List Dx),((rp ++ x :: post).length : Int) = (l.length : Int) → (∀ y,y ∈ rp ∨ y = x ∨ y ∈ post → y ∈ (rp ++ x :: post)) →
    Ew 0 k (((rp.length : Int) - 0).toNat + 2) (rp.reverse ++ x :: post) (rp.length : Int) = k ((Ur ltR x rp).reverse ++ post):=by
   intro k rp x post h1 _
   exact KE (fun x y k=>k (ltR x y)) ltR k (Ew 0 k) (fun _ _ _=>rfl) rp x post _ (by omega) (by simp at h1; omega) fun y _ k'=>rfl
  cases l with
  | nil=>rfl
  | cons x l =>
   have hw : W (0 + 1) = (([x] : List Dx).length : Int):=rfl
   rw [hw]
   exact BX ltR (fun x=>some x) (fun k x i=>Ew 0 k ((i - 0).toNat + 2) x i) (Fo ((x :: l).length : Int) 0 fun x=>some x) ((x :: l).length : Int) (fun _ _ _=>rfl)
    (fun k rp x post h1 h2=>hins k rp x post h1 h2) l [x] _ (by simp only [List.length_cons,List.length_nil]; omega) (by simp only [List.length_cons,List.length_nil]; omega) (by simp only [List.length_cons,List.length_nil] at hl ⊢; omega)
 unfold Ig Jx
 simp only [Og]
 rw [Gi,if_neg (by simp; omega),hs]
 simp only [Option.bind_some]
 rw [Gj,if_neg (by simp; omega)]
 rfl
theorem OG (p q : Dx) : ltD p q = true ↔ p.At < q.At ∨ (p.At = q.At ∧ (cB p.Site q.Site < 0 ∨ (p.Site = q.Site ∧ p.No < q.No))):=by
 unfold ltD
 rw [decide_eq_true_eq,PZ]
 rcases XM p.Site q.Site with h | h | h
 ·have hne : p.Site ≠ q.Site:=fun e=>by rw [e,Sz] at h; omega
  simp only [h,hne,false_and,or_false]
  split <;> (try split) <;> (try split) <;> omega
 ·have he : p.Site = q.Site:=GZ h
  simp only [he,Sz,true_and,ne_eq,not_true_eq_false,if_false,Int.lt_irrefl,false_or]
  split <;> (try split) <;> (try split) <;> (try split) <;> omega
 ·have hne : p.Site ≠ q.Site:=fun e=>by rw [e,Sz] at h; omega
  simp only [h,hne,false_and,or_false]
  split <;> (try split) <;> (try split) <;> omega
theorem ltD_irr (p : Dx) : ltD p p = false:=by
 cases h : ltD p p with
 | false=>rfl
 | true=>rw [OG,Sz] at h; omega
theorem MU (p q r : Dx) (h1 : ltD p q = true) (h2 : ltD q r = true) : ltD p r = true:=by
 rw [OG] at *
 rcases h1 with h1 | ⟨a1,h1⟩ <;> rcases h2 with h2 | ⟨a2,h2⟩
 ·exact .inl (by omega)
 ·exact .inl (by omega)
 ·exact .inl (by omega)
 ·refine .inr ⟨by omega,?_⟩
  rcases h1 with h1 | ⟨b1,h1⟩ <;> rcases h2 with h2 | ⟨b2,h2⟩
  ·exact .inl (AX h1 h2)
  ·exact .inl (by rw [← b2]; exact h1)
  ·exact .inl (by rw [b1]; exact h2)
  ·exact .inr ⟨b1.trans b2,by omega⟩
theorem ltD_tot {p q : Dx} (h : ltD q p = false) (hn : En p ≠ En q) : ltD p q = true:=by
 have h' : ¬ ltD q p = true:=by rw [h]; simp
 rw [OG] at h' ⊢
 have hf:=HA p.Site q.Site
 rcases XM p.Site q.Site with h | h | h
 ·by_cases h1 : p.At < q.At
  ·exact .inl h1
  ·exact .inr ⟨by omega,.inl (by omega)⟩
 ·have he : p.Site = q.Site:=GZ h
  have hno : p.No ≠ q.No:=fun e=>hn (by unfold En; rw [he,e])
  by_cases h1 : p.At < q.At
  ·exact .inl h1
  ·by_cases h2 : q.At < p.At
   ·exact absurd (.inl h2) h'
   ·by_cases h3 : p.No < q.No
    ·exact .inr ⟨by omega,.inr ⟨he,h3⟩⟩
    ·exact absurd (.inr ⟨by omega,.inr ⟨he.symm,by omega⟩⟩) h'
 ·by_cases h1 : p.At < q.At
  ·exact .inl h1
  ·by_cases h2 : q.At < p.At
   ·exact absurd (.inl h2) h'
   ·exact absurd (.inr ⟨by omega,.inl (by omega)⟩) h'
theorem RV.up : ∀ {l : List Dx},RV l → l.Pairwise fun a b=>ltD a b = true
 | [],_=>List.Pairwise.nil
 | [x],_=>List.pairwise_singleton _ _
 | x :: y :: l,h=>by
  have h1:=RV.up (l:=y :: l) (fun d p q r e=>h (x :: d) p q r (by rw [e]; rfl))
  have h2 : ltD x y = true:=decide_eq_true (h [] x y l rfl)
  refine List.pairwise_cons.2 ⟨fun z hz=>?_,h1⟩
  rcases List.mem_cons.1 hz with rfl | hz
  ·exact h2
  ·exact MU _ _ _ h2 ((List.pairwise_cons.1 h1).1 z hz)
theorem up_DAdj {l : List Dx} (h : l.Pairwise fun a b=>ltD a b = true) : RV l:=by
 intro d x y r e
 subst e
 have h1:=(List.pairwise_append.1 h).2.1
 exact of_decide_eq_true ((List.pairwise_cons.1 h1).1 y List.mem_cons_self)
end Go.Proofs.YtancihamhcdboaaGreatDoor
namespace Go.Proofs.YtancihamhcdboaaGreatDoor
open Go
theorem TU (j : List (ByteArray × Bool) → Bool → Option Int) : ∀ (ys : List Kg) (i : Nat) (m : List (ByteArray × Bool)),(∀ s ∈ ys,Gy s.Who = some true ∧ 0 ≤ s.Time ∧ s.Time ≤ 360000) → (ys.map (·.Who)).Nodup → (∀ s ∈ ys,El m s.Who false = false) →
  ∃ m',Lw j ys i m false = j m' false
 | [],i,m,_,_,_=>⟨m,rfl⟩
 | y :: ys,i,m,h1,h2,h3=>by
  obtain ⟨k,t0,t1⟩:=h1 y List.mem_cons_self
  simp only [List.map_cons,List.nodup_cons] at h2
  rw [Lw,k]
  simp only [Option.bind_some,Bool.not_true,Bool.false_eq_true,if_false]
  rw [if_neg (by unfold Ed; simp; omega),h3 y List.mem_cons_self,Bool.or_false]
  exact TU j ys (i + 1) _ (fun s hs=>h1 s (List.mem_cons_of_mem _ hs)) h2.2 (fun s hs=>by
   rw [Yc,if_neg (fun e=>h2.1 (by rw [← e]; exact List.mem_map_of_mem hs))]
   exact h3 s (List.mem_cons_of_mem _ hs))
theorem XR {l : List Kg} (hl : l.length ≤ 300) (h1 : ∀ s ∈ l,Gy s.Who = some true ∧ 0 ≤ s.Time ∧ s.Time ≤ 360000) (h2 : (l.map (·.Who)).Nodup) : Ty l = some 0:=by
 unfold Ty
 rw [if_neg (by simp; omega),Og]
 obtain ⟨m,e⟩:=TU (fun x1 x2=>if x2 then some 6 else some 0) l 0 [] h1 h2 (fun _ _=>rfl)
 rw [e]
 rfl
theorem behindW {s t : ByteArray} (h : cB s t < 0) : (FZ t s || decide (t = s)) = false:=by
 rw [XN,Bool.or_eq_false_iff]
 have hf:=HA s t
 refine ⟨decide_eq_false (by omega),decide_eq_false fun e=>?_⟩
 rw [e,Sz] at h
 omega
theorem KK (l : List Iw) (hl : l.length ≤ 300) (j : Option Int) (h1 : ∀ s ∈ l,Gy s.Who = some true ∧ 0 ≤ s.Fault ∧ s.Fault ≤ 8) (h2 : l.Pairwise fun a b=>cB a.Who b.Who < 0) : ∀ (ys dn : List Iw),l = dn ++ ys → Jm l j ys dn.length = j
 | [],_,_=>rfl
 | y :: ys,dn,he=>by
  obtain ⟨k,t0,t1⟩:=h1 y (by rw [he]; simp)
  have ih:=KK l hl j h1 h2 ys (dn ++ [y]) (by rw [he]; simp)
  rw [List.length_append,List.length_singleton] at ih
  rw [Jm,k]
  simp only [Option.bind_some,Bool.not_true,Bool.false_eq_true,if_false,Og]
  rw [if_neg (by unfold Ed; simp; omega)]
  have hlen : l.length = dn.length + (ys.length + 1):=by rw [he]; simp
  by_cases h0 : (0 : Int) < (dn.length : Int)
  ·obtain ⟨d,x,hdx⟩ : ∃ d x,dn = d ++ [x]:=by
    rcases List.eq_nil_or_concat dn with h1 | ⟨d,x,h1⟩
    ·rw [h1] at h0; simp at h0
    ·exact ⟨d,x,by rw [h1]; simp⟩
   have hdl : dn.length = d.length + 1:=by rw [hdx]; simp
   have hw : W ((dn.length : Int) - 1) = (d.length : Int):=by rw [Ox (by omega) (by omega)]; omega
   have hn : nth l (d.length : Int) = x:=by rw [he,hdx]; unfold nth; simp
   have hc : cB x.Who y.Who < 0:=by
    rw [he,hdx,List.append_assoc,List.pairwise_append] at h2
    have:=h2.2.1
    simp only [List.cons_append,List.nil_append,List.pairwise_cons] at this
    exact this.1 y (by simp)
   rw [if_pos (decide_eq_true h0),hw,Gn (show inB (d.length : Int) l.length = true from Ju.2 (by omega)),hn,behindW hc,Bool.and_false,if_neg (by simp)]
   exact ih
  ·rw [if_neg (by simpa using h0),decide_eq_false h0,Bool.false_and,if_neg (by simp)]
   exact ih
theorem QA {l : List Iw} (hl : l.length ≤ 300) (h1 : ∀ s ∈ l,Gy s.Who = some true ∧ 0 ≤ s.Fault ∧ s.Fault ≤ 8) (h2 : l.Pairwise fun a b=>cB a.Who b.Who < 0) : Qr l = some 0:=by
 unfold Qr
 rw [if_neg (by simp; omega),Og]
 exact KK l hl (some 0) h1 h2 l [] rfl
def ltT (x y : Eb) : Bool:=decide (x.Time < y.Time)
def FV (x y : Eb) : Bool:=decide (x.Time < y.Time ∨ (x.Time = y.Time ∧ cB x.Who y.Who < 0))
theorem HE {x y : Eb} : FV x y = true ↔ x.Time < y.Time ∨ (x.Time = y.Time ∧ cB x.Who y.Who < 0):=by simp [FV]
theorem RZ (x y z : Eb) (h1 : FV x y = true) (h2 : FV y z = true) : FV x z = true:=by
 rw [HE] at *
 rcases h1 with h1 | ⟨h1,h3⟩
 ·rcases h2 with h2 | ⟨h2,_⟩ <;> exact .inl (by omega)
 ·rcases h2 with h2 | ⟨h2,h4⟩
  ·exact .inl (by omega)
  ·exact .inr ⟨by omega,AX h3 h4⟩
theorem KL {α : Type} {lt lt' : α → α → Bool} : ∀ (l rp : List α),(∀ x ∈ l,∀ y ∈ rp,lt x y = lt' x y) → l.Pairwise (fun a b=>lt b a = lt' b a) → Wm lt l rp = Wm lt' l rp
 | [],_,_,_=>rfl
 | x :: l,rp,h1,h2=>by
  rw [List.pairwise_cons] at h2
  show Wm lt l (Ur lt x rp) = Wm lt' l (Ur lt' x rp)
  have e : Ur lt x rp = Ur lt' x rp:=FU x rp (h1 x List.mem_cons_self)
  rw [e]
  refine KL l _ (fun z hz y hy=>?_) h2.2
  rcases (AW lt' x y rp).1 hy with rfl | hy
  ·exact h2.1 z hz
  ·exact h1 z (List.mem_cons_of_mem _ hz) y hy
theorem SA {α : Type} {lt lt' : α → α → Bool} (l : List α) (h : l.Pairwise fun a b=>lt b a = lt' b a) : Pv lt l = Pv lt' l:=by
 unfold Pv
 rw [KL l [] (fun _ _ _ h=>by cases h) h]
theorem XS {l : List Eb} (h : l.Pairwise fun a b=>cB a.Who b.Who < 0) : Pv ltT l = Pv FV l:=SA l (h.imp fun {a b} hab=>by
 have hf:=HA a.Who b.Who
 unfold ltT FV
 exact decide_eq_decide.2 ⟨.inl,fun hh=>by rcases hh with hh | ⟨_,hh⟩ <;> omega⟩)
theorem QB {l : List Eb} (h : l.Pairwise fun a b=>cB a.Who b.Who < 0) : (Pv FV l).Pairwise fun a b=>FV a b = true:=AY RZ l (h.imp fun {a b} hab hb=>by
 rw [← Bool.not_eq_true,HE] at hb
 rw [HE]
 omega)
def SB (x y : Eb) : Bool:=decide (W (W (Int.tdiv x.Time 1) - W (Int.tdiv y.Time 1)) < 0)
theorem ltT1_is (x y : Eb) (hx : 0 ≤ x.Time ∧ x.Time ≤ 360000) (hy : 0 ≤ y.Time ∧ y.Time ≤ 360000) : SB x y = ltT x y:=by
 unfold SB ltT
 rw [Int.tdiv_one,Int.tdiv_one,Ox (n:=x.Time) (by omega) (by omega),Ox (n:=y.Time) (by omega) (by omega),Ox (by omega) (by omega)]
 exact decide_eq_decide.2 (by omega)
theorem VR (l : List Eb) (hl : l.length ≤ 19) (h : ∀ x ∈ l,0 ≤ x.Time ∧ x.Time ≤ 360000) : Je l 1 = some (Pv ltT l):=by
 rw [← IP (lt:=SB) (lt':=ltT) l fun x hx y hy=>ltT1_is x y (h x hx) (h y hy)]
 have hs : Hy l 0 (l.length : Int) 1 = some (Pv SB l):=by
  unfold Hy
  simp only [Og]
  have hins : ∀ (k : List Eb → Option (List Eb)) (rp : List Eb) (x : Eb) (post : List Eb),((rp ++ x :: post).length : Int) = (l.length : Int) → (∀ y,y ∈ rp ∨ y = x ∨ y ∈ post → y ∈ (rp ++ x :: post)) →
    Fa 0 1 k (((rp.length : Int) - 0).toNat + 2) (rp.reverse ++ x :: post) (rp.length : Int) = k ((Ur SB x rp).reverse ++ post):=by
   intro k rp x post h1 _
   exact KE (fun x y k=>Option.bind (Vy x y 1) fun r=>k (decide (r < 0))) SB k (Fa 0 1 k) (fun _ _ _=>rfl) rp x post _ (by omega) (by simp at h1; omega) fun y hy k'=>by
    unfold Vy
    rw [Gn (by decide),Gn (by decide)]
    rfl
  cases l with
  | nil=>rfl
  | cons x l =>
   have hw : W (0 + 1) = (([x] : List Eb).length : Int):=rfl
   rw [hw]
   exact BX SB (fun x=>some x) (fun k x i=>Fa 0 1 k ((i - 0).toNat + 2) x i) (Fw ((x :: l).length : Int) 0 1 fun x=>some x) ((x :: l).length : Int) (fun _ _ _=>rfl)
    (fun k rp x post h1 h2=>hins k rp x post h1 h2) l [x] _ (by simp only [List.length_cons,List.length_nil]; omega) (by simp only [List.length_cons,List.length_nil]; omega) (by simp only [List.length_cons,List.length_nil] at hl ⊢; omega)
 unfold Je Ks
 simp only [Og]
 rw [Gt,if_neg (by simp; omega),hs]
 simp only [Option.bind_some]
 rw [Gu,if_neg (by simp; omega)]
 rfl
def rkF (i : Nat) (pt pr : Int) : List Eb → List Eb
 | []=>[]
 | x :: xs=>let r:=if decide (0 < (i : Int)) && decide (x.Time = pt) then pr else (i : Int) + 1
  Eb.mk x.Who r x.Time x.Fault :: rkF (i + 1) x.Time r xs
theorem TV : ∀ (l : List Eb) (i : Nat) (pt pr : Int),(rkF i pt pr l).length = l.length
 | [],_,_,_=>rfl
 | x :: xs,i,pt,pr=>by simp [rkF,TV xs]
theorem JN (j : List Eb → Option (List Eb × Int)) : ∀ (B A ys : List Eb) (pt pr : Int),ys.length = B.length → (A ++ B).length ≤ 1000 → (∀ x ∈ B,0 ≤ x.Time ∧ x.Time ≤ 360000) → (A = [] ∨ ∃ A' z,A = A' ++ [z] ∧ z.Time = pt ∧ z.Rank = pr ∧ 0 ≤ pt ∧ pt ≤ 360000) →
  Ol 1 j ys A.length (A ++ B) = j (A ++ rkF A.length pt pr B)
 | [],A,ys,pt,pr,h1,_,_,_=>by
  obtain rfl : ys = []:=List.length_eq_zero_iff.1 h1
  rw [Ol]; rfl
 | b :: B,A,[],pt,pr,h1,_,_,_=>by simp at h1
 | b :: B,A,y :: ys,pt,pr,h1,h2,h3,h4=>by
  simp only [List.length_cons,Nat.add_right_cancel_iff] at h1
  have hlen : (A ++ b :: B).length = A.length + (B.length + 1):=by simp
  have hb:=h3 b List.mem_cons_self
  have nb : nth (A ++ b :: B) (A.length : Int) = b:=Xh A b B rfl
  have ib : inB (A.length : Int) (A ++ b :: B).length = true:=Ju.2 (by omega)
  have tb : W (Int.tdiv b.Time 1) = b.Time:=by rw [Int.tdiv_one]; exact Ox (by omega) (by omega)
  have sb : ∀ z : Eb,(A ++ b :: B).set (((A.length : Nat) : Int).toNat) z = (A ++ [z]) ++ B:=fun z=>by simp
  rw [Ol]
  simp only [Og]
  rw [rkF]
  by_cases h0 : (0 : Int) < (A.length : Int)
  ·obtain ⟨A',z,hA,z1,z2,z3,z4⟩ : ∃ A' z,A = A' ++ [z] ∧ z.Time = pt ∧ z.Rank = pr ∧ 0 ≤ pt ∧ pt ≤ 360000:=by
    rcases h4 with h4 | h4
    ·rw [h4] at h0; simp at h0
    ·exact h4
   have hAl : A.length = A'.length + 1:=by rw [hA]; simp
   have hw : W ((A.length : Int) - 1) = (A'.length : Int):=by rw [Ox (by omega) (by omega)]; omega
   have nz : nth (A ++ b :: B) (A'.length : Int) = z:=by rw [hA,List.append_assoc]; exact Xh A' z _ rfl
   have iz : inB (A'.length : Int) (A ++ b :: B).length = true:=Ju.2 (by omega)
   have tz : W (Int.tdiv z.Time 1) = pt:=by rw [Int.tdiv_one,z1]; exact Ox (by omega) (by omega)
   have hw1 : W ((A.length : Int) + 1) = (A.length : Int) + 1:=Ox (by omega) (by omega)
   rw [if_pos (decide_eq_true h0),Gn ib,Gn (by decide),hw,Gn iz,Gn (by decide),nb,nz,tb,tz,decide_eq_true h0,Bool.true_and]
   by_cases ht : b.Time = pt
   ·rw [if_pos (decide_eq_true ht),Gn iz,Gn ib,sb,decide_eq_true ht]
    have:=JN j B (A ++ [Eb.mk b.Who z.Rank b.Time b.Fault]) ys b.Time z.Rank h1 (by simp at h2 ⊢; omega) (fun x hx=>h3 x (List.mem_cons_of_mem _ hx)) (.inr ⟨A,_,rfl,rfl,rfl,hb.1,hb.2⟩)
    rw [List.length_append,List.length_singleton] at this
    rw [this,z2]
    simp
   ·rw [if_neg (by simpa using ht),Gn ib,sb,hw1,decide_eq_false ht]
    have:=JN j B (A ++ [Eb.mk b.Who ((A.length : Int) + 1) b.Time b.Fault]) ys b.Time ((A.length : Int) + 1) h1 (by simp at h2 ⊢; omega) (fun x hx=>h3 x (List.mem_cons_of_mem _ hx)) (.inr ⟨A,_,rfl,rfl,rfl,hb.1,hb.2⟩)
    rw [List.length_append,List.length_singleton] at this
    rw [this]
    simp
  ·have hw1 : W ((A.length : Int) + 1) = (A.length : Int) + 1:=Ox (by omega) (by omega)
   rw [if_neg (by simpa using h0),decide_eq_false h0,Bool.false_and,Bool.false_and,if_neg (by simp),Gn ib,nb,sb,hw1]
   have:=JN j B (A ++ [Eb.mk b.Who ((A.length : Int) + 1) b.Time b.Fault]) ys b.Time ((A.length : Int) + 1) h1 (by simp at h2 ⊢; omega) (fun x hx=>h3 x (List.mem_cons_of_mem _ hx)) (.inr ⟨A,_,rfl,rfl,rfl,hb.1,hb.2⟩)
   rw [List.length_append,List.length_singleton] at this
   rw [this]
   simp
def Zr (V : List Iw) (m : List (ByteArray × Int)) : List (ByteArray × Int):=V.foldl (fun m v=>Gw m v.Who v.Fault) m
theorem TW (j : List (ByteArray × Int) → Option (List Eb × Int)) : ∀ (V : List Iw) (i : Nat) (m : List (ByteArray × Int)),Pm j V i m = j (Zr V m)
 | [],_,m=>rfl
 | v :: V,i,m=>by rw [Pm,TW j V (i + 1) _]; rfl
def mkR (f : ByteArray → Int) (s : Kg) : Eb:=Eb.mk s.Who 0 s.Time (f s.Who)
def isG (f : ByteArray → Int) (s : Kg) : Bool:=decide (f s.Who = 0) && decide (0 < s.Time)
theorem OH (x1 : List (ByteArray × Int)) (j : List Eb → List Eb → Option (List Eb × Int)) : ∀ (ys : List Kg) (i : Nat) (x2 x3 : List Eb),x2.length + ys.length ≤ 1000 → x3.length + ys.length ≤ 1000 →
  Ok x1 j ys i x2 x3 = j (x2 ++ (ys.filter fun s=>!isG (fun w=>El x1 w 0) s).map (mkR fun w=>El x1 w 0)) (x3 ++ (ys.filter (isG fun w=>El x1 w 0)).map (mkR fun w=>El x1 w 0))
 | [],i,x2,x3,_,_=>by simp [Ok]
 | y :: ys,i,x2,x3,h2,h3=>by
  simp only [List.length_cons] at h2 h3
  rw [Ok]
  simp only [Og]
  have hg : isG (fun w=>El x1 w 0) y = (decide (El x1 y.Who 0 = 0) && decide (0 < y.Time)):=rfl
  have hm : mkR (fun w=>El x1 w 0) y = Eb.mk y.Who 0 y.Time (El x1 y.Who 0):=rfl
  cases hc : (decide (El x1 y.Who 0 = 0) && decide (0 < y.Time)) with
  | true =>
   rw [if_pos rfl,Gn (by unfold Sq; exact decide_eq_true (by omega)),OH x1 j ys (i + 1) x2 _ (by omega) (by simp; omega),List.filter_cons_of_neg (by rw [hg,hc]; simp),List.filter_cons_of_pos (by rw [hg,hc]),List.map_cons,hm]
   simp
  | false =>
   rw [if_neg (by simp),Gn (by unfold Sq; exact decide_eq_true (by omega)),OH x1 j ys (i + 1) _ x3 (by simp; omega) (by omega),List.filter_cons_of_pos (by rw [hg,hc]; simp),List.filter_cons_of_neg (by rw [hg,hc]; simp),List.map_cons,hm]
   simp
def AZ (f : ByteArray → Int) (Q : List Kg) : List Eb :=
 rkF 0 0 0 (Pv FV ((Q.filter (isG f)).map (mkR f))) ++ (Q.filter fun s=>!isG f s).map (mkR f)
theorem rank_is {Q : List Kg} {V : List Iw} (hl : Q.length ≤ 19) (h1 : ∀ s ∈ Q,Gy s.Who = some true ∧ 0 ≤ s.Time ∧ s.Time ≤ 360000) (h2 : Q.Pairwise fun a b=>cB a.Who b.Who < 0) (hv : V.length ≤ 300) (v1 : ∀ s ∈ V,Gy s.Who = some true ∧ 0 ≤ s.Fault ∧ s.Fault ≤ 8) (v2 : V.Pairwise fun a b=>cB a.Who b.Who < 0) :
  Xn Q V = some (AZ (fun w=>El (Zr V []) w 0) Q,0):=by
 have hnd : (Q.map (·.Who)).Nodup:=List.pairwise_map.2 (h2.imp fun {a b} h e=>by rw [e,Sz] at h; omega)
 have hgl:=List.length_filter_le (isG fun w=>El (Zr V []) w 0) Q
 have hbl:=List.length_filter_le (fun s=>!isG (fun w=>El (Zr V []) w 0) s) Q
 have hG : ∀ x ∈ (Q.filter (isG fun w=>El (Zr V []) w 0)).map (mkR fun w=>El (Zr V []) w 0),0 ≤ x.Time ∧ x.Time ≤ 360000:=fun x hx=>by
  obtain ⟨s,hs,rfl⟩:=List.mem_map.1 hx
  exact (h1 s (List.mem_filter.1 hs).1).2
 have hGp : ((Q.filter (isG fun w=>El (Zr V []) w 0)).map (mkR fun w=>El (Zr V []) w 0)).Pairwise fun a b=>cB a.Who b.Who < 0:=by
  rw [List.pairwise_map]
  exact h2.sublist List.filter_sublist
 unfold Xn BL
 rw [XR (by omega) h1 hnd]
 simp only [Option.bind_some,decide_true,Bool.not_true,Bool.false_eq_true,if_false]
 rw [QA hv v1 v2]
 simp only [Option.bind_some,decide_true,Bool.not_true,Bool.false_eq_true,if_false,Og]
 rw [TW,OH _ _ Q 0 [] [] (by simp; omega) (by simp; omega),List.nil_append,List.nil_append,VR _ (by rw [List.length_map]; omega) hG,XS hGp]
 simp only [Option.bind_some]
 have hl3:=JN (fun x8=>Chk (decide (x8.length + ((Q.filter fun s=>!isG (fun w=>El (Zr V []) w 0) s).map (mkR fun w=>El (Zr V []) w 0)).length < 1073741824)) (some (x8 ++ (Q.filter fun s=>!isG (fun w=>El (Zr V []) w 0) s).map (mkR fun w=>El (Zr V []) w 0),0)))
  (Pv FV ((Q.filter (isG fun w=>El (Zr V []) w 0)).map (mkR fun w=>El (Zr V []) w 0))) [] (Pv FV ((Q.filter (isG fun w=>El (Zr V []) w 0)).map (mkR fun w=>El (Zr V []) w 0))) 0 0 rfl (by rw [List.nil_append,Xu,List.length_map]; omega) (fun x hx=>hG x ((Xt _ _ _).1 hx)) (.inl rfl)
 rw [List.length_nil,List.nil_append,List.nil_append] at hl3
 rw [hl3,Gn (by rw [TV,Xu,List.length_map,List.length_map]; exact decide_eq_true (by omega))]
 rfl
end Go.Proofs.YtancihamhcdboaaGreatDoor
namespace Go.Proofs.YtancihamhcdboaaGreatDoor
open Go
def ltW (x y : Dx) : Bool:=decide (Pd x y < 0)
theorem VS (l : List Dx) (hl : l.length ≤ 12) : Il l 0 (l.length : Int) = some (Pv ltW l):=by
 unfold Il
 simp only [Og]
 have hins : ∀ (k : List Dx → Option (List Dx)) (rp : List Dx) (x : Dx) (post : List Dx),((rp ++ x :: post).length : Int) = (l.length : Int) → (∀ y,y ∈ rp ∨ y = x ∨ y ∈ post → y ∈ (rp ++ x :: post)) →
   Ez 0 k (((rp.length : Int) - 0).toNat + 2) (rp.reverse ++ x :: post) (rp.length : Int) = k ((Ur ltW x rp).reverse ++ post):=by
  intro k rp x post h1 _
  exact KE (fun x y k=>k (ltW x y)) ltW k (Ez 0 k) (fun _ _ _=>rfl) rp x post _ (by omega) (by simp at h1; omega) fun y _ k'=>rfl
 cases l with
 | nil=>rfl
 | cons x l =>
  have hw : W (0 + 1) = (([x] : List Dx).length : Int):=rfl
  rw [hw]
  exact BX ltW (fun x=>some x) (fun k x i=>Ez 0 k ((i - 0).toNat + 2) x i) (Fu ((x :: l).length : Int) 0 fun x=>some x) ((x :: l).length : Int) (fun _ _ _=>rfl)
   (fun k rp x post h1 h2=>hins k rp x post h1 h2) l [x] _ (by simp only [List.length_cons,List.length_nil]; omega) (by simp only [List.length_cons,List.length_nil]; omega) (by simp only [List.length_cons,List.length_nil] at hl ⊢; omega)
theorem XT (l : List Dx) (hl : l.length ≤ 12) : Jz l = some (Pv ltW l):=by
 unfold Jz
 obtain ⟨r,hr⟩:=Option.isSome_iff_exists.1 (XP ⟨l.length,by omega⟩)
 simp only at hr
 rw [hr]
 simp only [Option.bind_some]
 unfold Ki
 rw [show (4611686018427387904 : Nat) = 4611686018427387903 + 1 from rfl,Hc,Ox (by omega) (by omega),if_pos (decide_eq_true (by omega)),VS l hl]
 rfl
theorem KM (x y : Dx) : ltW x y = decide (cB x.Who y.Who < 0):=rfl
theorem ltW_irr (x : Dx) : ltW x x = false:=by rw [KM,Sz]; rfl
theorem IF (x y z : Dx) (h1 : ltW x y = true) (h2 : ltW y z = true) : ltW x z = true:=by
 rw [KM,decide_eq_true_eq] at *; exact AX h1 h2
theorem OI {l : List Dx} (h : (l.map (·.Who)).Nodup) : l.Pairwise fun a b=>ltW b a = false → ltW a b = true:=by
 refine (List.pairwise_map.1 h).imp fun {a b} hne hb=>?_
 rw [KM,decide_eq_false_iff_not] at hb
 rw [KM,decide_eq_true_eq]
 have h0 : cB a.Who b.Who ≠ 0:=fun e=>hne (GZ e)
 have:=HA a.Who b.Who
 omega
end Go.Proofs.YtancihamhcdboaaGreatDoor
