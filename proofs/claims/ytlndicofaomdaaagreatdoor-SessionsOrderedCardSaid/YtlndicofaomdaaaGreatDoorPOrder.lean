/- session.Order,plainly: what its parts compute. Conditions: right items and calls,few. -/
import Derived.Test.YtlndicofaomdaaaGreatDoorTw
namespace Go.Proofs.YtlndicofaomdaaaGreatDoor
open Go

theorem Lh {R : Type} {c : Bool} {k : Option R} (h : c = true) : Chk c k = k:=by simp [Chk,h]
theorem Nn {κ R : Type} (K : κ) (f : κ → R) : Ib K f = f K:=rfl
theorem AA {x n : Int} (hn : 0 < n) : -n < Int.tmod x n ∧ Int.tmod x n < n:=by
 have h1:=Int.tmod_lt_of_pos x hn
 have h2:=Int.tmod_lt_of_pos (-x) hn
 rw [Int.neg_tmod] at h2
 omega
theorem BC (x n : Int) (hn : n ≤ 4611686018427387904) : ∃ v,Nu x n = some v ∧ 0 ≤ v ∧ (v < n ∨ (n < 1 ∧ v = 0)):=by
 unfold Nu
 by_cases h : n < 1
 ·exact ⟨0,by simp [h],Int.le_refl _,.inr ⟨h,rfl⟩⟩
 ·have h1:=AA (x:=x) (n:=n) (by omega)
  have h0 : ¬ n = 0:=by omega
  simp only [decide_eq_true_eq,h,if_false,Ib]
  rw [Lh (by simp [h0])]
  by_cases h2 : Int.tmod x n < 0
  ·rw [if_pos h2,Km (by omega) (by omega)]
   exact ⟨_,rfl,by omega,.inl (by omega)⟩
  ·rw [if_neg h2]
   exact ⟨_,rfl,by omega,.inl (by omega)⟩
theorem Wz (L : List Int) (a n : Int) (ha : 0 ≤ a) (ha' : a ≤ 4611686018427387904) (hL : (L.length : Int) ≤ 9223372036854775807) (hn : n ≤ 4611686018427387904) :
  ∃ v,Mc L a n = some (v,a + 1) ∧ 0 ≤ v ∧ (v < n ∨ (n < 1 ∧ v = 0)):=by
 have w1 : W (a + 1) = a + 1:=Km (by omega) (by omega)
 have w2 : W (a + 1 - 1) = a:=by rw [show a + 1 - 1 = a by omega]; exact Km (by omega) (by omega)
 unfold Mc
 rw [w1,w2]
 by_cases h : (L.length : Int) = 0
 ·obtain ⟨v,h1,h2,h3⟩:=BC (W ((a + 1) * 7919)) n hn
  exact ⟨v,by simp [h,h1],h2,h3⟩
 ·have h0 : 0 < (L.length : Int):=by omega
  have hm:=AA (x:=a) h0
  have hm0 : 0 ≤ Int.tmod a (L.length : Int):=Int.tmod_nonneg _ ha
  have hc : inB (Int.tmod a (L.length : Int)) L.length = true:=Hu.2 ⟨hm0,hm.2⟩
  obtain ⟨v1,e1,_,_⟩:=BC (nth L (Int.tmod a (L.length : Int))) 1073741824 (by omega)
  simp only [decide_eq_true_eq,h,if_false]
  rw [Lh (by simp),Lh (by simp),Lh hc,e1]
  simp only [Option.bind_some]
  obtain ⟨v2,e2,g1,g2⟩:=BC (W (v1 + W (W (Int.tdiv a (L.length : Int)) * W (7919 + Int.tmod a (L.length : Int))))) n hn
  exact ⟨v2,by rw [e2]; rfl,g1,g2⟩
theorem IE (L : List Int) (a : Int) (l : List Int) (ha : 0 ≤ a) (ha' : a ≤ 4611686018427387904) (hL : (L.length : Int) ≤ 9223372036854775807) (hl : 0 < l.length) (hl' : l.length ≤ 1000) :
  ∃ v,Mr L a l = some (v,a + 1) ∧ v ∈ l:=by
 obtain ⟨v,h1,h2,h3⟩:=Wz L a (l.length : Int) ha ha' hL (by omega)
 have h4 : v < (l.length : Int):=by omega
 have hc : inB v l.length = true:=Hu.2 ⟨h2,h4⟩
 unfold Mr
 rw [h1]
 simp only [Option.bind_some]
 rw [Lh hc]
 exact ⟨nth l v,rfl,List.mem_of_getElem? (Ff hc).1⟩
theorem IF (L : List Int) (a n : Int) (ha : 0 ≤ a) (ha' : a ≤ 4611686018427387904) (hL : (L.length : Int) ≤ 9223372036854775807) (hn : n ≤ 4611686018427387904) : ∃ b,Mq L a n = some (b,a + 1):=by
 obtain ⟨v,h1,_,_⟩:=Wz L a n ha ha' hL hn
 unfold Mq
 rw [h1]
 exact ⟨_,rfl⟩
end Go.Proofs.YtlndicofaomdaaaGreatDoor
namespace Go.Proofs.YtlndicofaomdaaaGreatDoor
open Go

theorem EO {l : List UInt8} {c : UInt8} : decide (Lib.indexByte l c < 0) = !l.contains c:=by
 have key : ∀ l : List UInt8,(Lib.indexByte l c = -1 ∧ l.contains c = false) ∨ (0 ≤ Lib.indexByte l c ∧ l.contains c = true):=by
  intro l
  induction l with
  | nil=>exact .inl ⟨rfl,rfl⟩
  | cons b l ih =>
   by_cases hb : b = c
   ·subst hb; exact .inr (by simp [Lib.indexByte])
   ·have hb' : (b == c) = false:=by simpa using hb
    have hc : (c == b) = false:=by simpa using fun h=>hb h.symm
    rcases ih with ⟨h1,h2⟩ | ⟨h1,h2⟩
    ·refine .inl ⟨by simp [Lib.indexByte,hb',h1],?_⟩
     rw [List.contains_cons,hc,h2]; rfl
    ·have h3 : ¬ Lib.indexByte l c = -1:=by omega
     refine .inr ⟨by simp [Lib.indexByte,hb',h3]; omega,?_⟩
     rw [List.contains_cons,hc,h2]; rfl
 rcases key l with ⟨h1,h2⟩ | ⟨h1,h2⟩
 ·rw [h1,h2]; rfl
 ·rw [h2]; simp; omega
theorem JT (u : UInt8) : ((u.toNat : Int)).toNat.toUInt8 = u:=by simp
theorem Um (s : ByteArray) : s.size = s.data.toList.length:=by rw [ByteArray.size,Array.length_toList]
theorem CZ {s : ByteArray} {j : Nat} {u : UInt8} (h : s.data.toList[j]? = some u) : Ts s (j : Int) = (u.toNat : Int):=by
 unfold Ts
 rw [Int.toNat_natCast]
 simp [List.getD,h]
theorem JU (s some_ : ByteArray) : ∀ (k : Nat) (m : Nat),k + m = s.size + 1 → s.size ≤ 4611686018427387904 →
  Kg s some_ (some true) (m + 1) (k : Int) = some ((s.data.toList.drop k).all fun b=>some_.data.toList.contains b):=by
 intro k m
 induction m generalizing k with
 | zero =>
  intro h hs
  have h1 : ¬ (k : Int) < (s.size : Int):=by omega
  rw [Kg]
  rw [if_neg (by simpa using h1),List.drop_of_length_le (by rw [← Um]; omega)]
  rfl
 | succ m ih =>
  intro h hs
  rw [Kg]
  by_cases h1 : (k : Int) < (s.size : Int)
  ·have hk : k < s.data.toList.length:=by rw [← Um]; omega
   have hget : s.data.toList[k]? = some s.data.toList[k]:=List.getElem?_eq_getElem hk
   rw [if_pos (decide_eq_true h1),Lh (Hu.2 ⟨by omega,h1⟩),List.drop_eq_getElem_cons hk,List.all_cons]
   have hb : decide (Qc some_ (Ts s (k : Int)) < 0) = !some_.data.toList.contains s.data.toList[k]:=by
    unfold Qc
    rw [CZ hget,JT,EO]
   rw [hb]
   cases hc : some_.data.toList.contains s.data.toList[k] with
   | false=>simp
   | true =>
    simp only [Bool.not_true,Bool.false_eq_true,if_false,Bool.true_and]
    have hw : W ((k : Int) + 1) = ((k + 1 : Nat) : Int):=by rw [Km (by omega) (by omega)]; omega
    rw [hw]
    exact ih (k + 1) (by omega) hs
  ·rw [if_neg (by simpa using h1),List.drop_of_length_le (by rw [← Um]; omega)]
   rfl
theorem IG (s some_ : ByteArray) (hs : s.size ≤ 4611686018427387904) : Pw s some_ = some (s.data.toList.all fun b=>some_.data.toList.contains b):=by
 unfold Pw
 rw [Nn]
 have h:=JU s some_ 0 (s.size + 1) (by omega) hs
 have e : ((s.size : Int) - 0).toNat + 2 = s.size + 1 + 1:=by omega
 rw [e]
 exact h
theorem Sq {p : UInt8 → Bool} : ∀ {l : List UInt8},l.dropWhile p = [] ↔ l.all p = true
 | []=>by simp
 | a :: l=>by
  rw [List.dropWhile_cons,List.all_cons]
  cases h : p a with
  | true=>simpa [h] using Sq (p:=p) (l:=l)
  | false=>simp
theorem LB {l cs : List UInt8} : Lib.trimS l cs = [] ↔ l.all (fun b=>cs.contains b) = true:=by
 unfold Lib.trimS Lib.trimLeftS Lib.trimRightS
 rw [Sq,List.all_reverse]
 constructor
 ·intro h
  have h2 : l.reverse.dropWhile (fun x=>cs.contains x) = []:=by
   cases hd : l.reverse.dropWhile (fun x=>cs.contains x) with
   | nil=>rfl
   | cons a r =>
    have h3:=List.head_dropWhile_not (fun x=>cs.contains x) (l:=l.reverse) (by rw [hd]; simp)
    rw [hd] at h
    simp only [hd,List.head_cons] at h3
    rw [List.all_cons,h3] at h
    cases h
  rw [Sq,List.all_reverse] at h2
  exact h2
 ·intro h
  have h2 : l.reverse.dropWhile (fun x=>cs.contains x) = []:=by rw [Sq,List.all_reverse]; exact h
  rw [h2]; rfl
end Go.Proofs.YtlndicofaomdaaaGreatDoor
namespace Go.Proofs.YtlndicofaomdaaaGreatDoor
open Go

theorem JV (u : UInt8) : Jw.data.toList.contains u = (decide (97 ≤ (u.toNat : Int)) && decide ((u.toNat : Int) ≤ 122)):=by
 have key : ∀ n : Fin 256,Jw.data.toList.contains (UInt8.ofNat n.val) = (decide (97 ≤ (((UInt8.ofNat n.val).toNat : Nat) : Int)) && decide ((((UInt8.ofNat n.val).toNat : Nat) : Int) ≤ 122)):=by decide +kernel
 have h:=key ⟨u.toNat,u.toNat_lt⟩
 simpa using h
theorem JW : (Hm.data.toList.all fun b=>decide (b.toNat < 128)) = true:=by decide +kernel
theorem JX (l : List UInt8) : ((⟨l.toArray⟩ : ByteArray) = Ga) ↔ l = []:=by
 constructor
 ·intro h
  have h2:=congrArg (fun b : ByteArray=>b.data.toList) h
  simpa [Ga] using h2
 ·rintro rfl; rfl
theorem BD (s : ByteArray) : ∃ b,Oj s = some b ∧ Pp s = some b:=by
 by_cases hs : 1 ≤ s.size ∧ s.size ≤ 40
 ·obtain ⟨h1,h2⟩:=hs
  have hsz:=Um s
  obtain ⟨u,r,hl⟩ : ∃ u r,s.data.toList = u :: r:=by
   cases h : s.data.toList with
   | nil=>rw [h] at hsz; exact absurd hsz (by show ¬ s.size = 0; omega)
   | cons u r=>exact ⟨u,r,rfl⟩
  have hin : Gr (s.size : Int) 1 40 = true:=by unfold Gr; simp; omega
  have hwin : (decide (1 ≤ (s.size : Int)) && decide ((s.size : Int) ≤ 40)) = true:=by simp; omega
  have hb0 : inB 0 s.size = true:=Hu.2 ⟨by omega,by omega⟩
  have hc0 : Ql 0 1 s.size = true:=Nt.2 ⟨by omega,by omega,by omega⟩
  have hu : Ts s 0 = (u.toNat : Int):=CZ (j:=0) (by rw [hl]; rfl)
  have hcut : (FE s 0 1).data.toList = [u]:=by
   unfold FE
   simp [hl]
  have hcsz : (FE s 0 1).size ≤ 4611686018427387904:=by rw [Um,hcut]; simp
  have hall:=IG s Hm (by omega)
  have hone:=IG (FE s 0 1) Jw hcsz
  rw [hcut] at hone
  simp only [List.all_cons,List.all_nil,Bool.and_true,JV] at hone
  have htrim : Rt s Hm = some ⟨(Lib.trimS s.data.toList Hm.data.toList).toArray⟩:=by
   unfold Rt
   rw [Lh (by simp; omega),Lh (by decide +kernel),Lh JW]
  have htr : decide ((⟨(Lib.trimS s.data.toList Hm.data.toList).toArray⟩ : ByteArray) = Ga) = s.data.toList.all fun b=>Hm.data.toList.contains b:=by
   rw [Bool.eq_iff_iff,decide_eq_true_eq,JX,LB]
  refine ⟨(decide (97 ≤ (u.toNat : Int)) && decide ((u.toNat : Int) ≤ 122)) && s.data.toList.all fun b=>Hm.data.toList.contains b,?_,?_⟩
  ·unfold Oj
   simp only [Nn,hwin,if_true,Bool.true_and,Lh hb0,hu]
   by_cases g1 : 97 ≤ (u.toNat : Int)
   ·simp only [g1,decide_true,if_true,Bool.true_and]
    by_cases g2 : (u.toNat : Int) ≤ 122
    ·simp only [g2,decide_true,if_true,Bool.true_and,htrim,Option.bind_some,htr]
    ·simp only [g2,decide_false,Bool.false_eq_true,if_false,Bool.false_and]
   ·simp only [g1,decide_false,Bool.false_eq_true,if_false,Bool.false_and]
  ·unfold Pp
   simp only [Nn,hin,if_true,Bool.true_and,Lh hc0,hone,Option.bind_some]
   cases hz : (decide (97 ≤ (u.toNat : Int)) && decide ((u.toNat : Int) ≤ 122)) with
   | true=>simp only [if_true,hall,Option.bind_some,Bool.true_and]
   | false=>simp only [Bool.false_eq_true,if_false,Bool.false_and]
 ·refine ⟨false,?_,?_⟩
  ·have hwin : (decide (1 ≤ (s.size : Int)) && decide ((s.size : Int) ≤ 40)) = false:=by simp; omega
   unfold Oj
   simp only [Nn,hwin,Bool.false_eq_true,if_false,Bool.false_and]
  ·have hin : Gr (s.size : Int) 1 40 = false:=by unfold Gr; simp; omega
   unfold Pp
   simp only [Nn,hin,Bool.false_eq_true,if_false,Bool.false_and]
end Go.Proofs.YtlndicofaomdaaaGreatDoor
namespace Go.Proofs.YtlndicofaomdaaaGreatDoor
open Go

theorem DA {κ ν : Type} [DecidableEq κ] (k k' : κ) (v : ν) : ∀ (m : List (κ × ν)) (i : Nat),(Rk (Si m k v) k' i).map (·.2) = if k' = k then some v else (Rk m k' i).map (·.2)
 | [],i=>by
  by_cases h : k' = k <;> simp [Si,Rk,h]
 | (q,u) :: m,i=>by
  by_cases h : k = q
  ·subst h
   by_cases h2 : k' = k <;> simp [Si,Rk,h2]
  ·by_cases h2 : k' = q
   ·subst h2
    have h3 : ¬ k' = k:=fun e=>h e.symm
    simp [Si,Rk,h,h3]
   ·simp [Si,Rk,h,h2,DA k k' v m (i + 1)]
theorem DB {κ ν : Type} [DecidableEq κ] (m : List (κ × ν)) (k k' : κ) (v d : ν) : Xn (Si m k v) k' d = if k' = k then v else Xn m k' d:=by
 unfold Xn DX
 rw [DA]
 split <;> simp
theorem AB (key : ByteArray) : ∀ (l : List An) (i : Nat),decide (0 ≤ Ft key (-1) l i) = l.any fun x=>decide (x.Key = key)
 | [],i=>by rw [Ft]; rfl
 | x :: l,i=>by
  rw [Ft,List.any_cons]
  unfold Nw
  by_cases h : x.Key = key
  ·rw [if_pos (decide_eq_true h)]; simp [h]
  ·rw [if_neg (by simpa using h),AB key l (i + 1)]; simp [h]
theorem BE (l : List An) (key : ByteArray) : decide (0 ≤ Gl l key) = l.any fun x=>decide (x.Key = key):=AB key l 0
theorem DC : Gy = Gr:=rfl
def Mg (x : An) : Prop:=(1 ≤ x.Heats ∧ x.Heats ≤ 60) ∧ (1 ≤ x.Long ∧ x.Long ≤ 3600000) ∧ (0 ≤ x.Gap ∧ x.Gap ≤ 3600000) ∧ (0 ≤ x.Break ∧ x.Break ≤ 3600000)
theorem cut_app {α : Type} (dn ys : List α) : cut (dn ++ ys) 0 (dn.length : Int) = dn:=by simp [cut]
theorem GY (l : List An) : ∀ (ys dn : List An) (m : List (ByteArray × Bool)),l = dn ++ ys → (∀ k,Xn m k false = dn.any fun x=>decide (x.Key = k)) → (∀ x ∈ dn,Mg x) →
  ∃ e,Hw (fun _=>some 0) ys dn.length m = some e ∧ Ip l (some 0) ys dn.length = some e ∧ (e = 0 → ∀ x ∈ l,Mg x):=by
 intro ys
 induction ys with
 | nil =>
  intro dn m hl hm hg
  refine ⟨0,rfl,rfl,fun _=>?_⟩
  rw [List.append_nil] at hl
  subst hl; exact hg
 | cons y ys ih =>
  intro dn m hl hm hg
  obtain ⟨b,e1,e2⟩:=BD y.Key
  rw [Hw,Ip,e1,e2]
  simp only [Option.bind_some]
  cases b with
  | false=>exact ⟨5,by simp,by simp,fun h=>by cases h⟩
  | true =>
   have hc : Ql 0 (dn.length : Int) l.length = true:=Nt.2 ⟨by omega,by omega,by subst hl; simp; omega⟩
   simp only [Bool.not_true,Bool.false_eq_true,if_false]
   rw [Lh hc,BE,hm]
   have hcut : cut l 0 (dn.length : Int) = dn:=by subst hl; exact cut_app dn _
   rw [hcut]
   cases hk : dn.any fun x=>decide (x.Key = y.Key) with
   | true=>exact ⟨6,by simp,by simp,fun h=>by cases h⟩
   | false =>
    simp only [Bool.false_eq_true,if_false]
    rw [DC]
    cases hr : ((((!(Gr y.Heats 1 60)) || (!(Gr y.Long 1 3600000))) || (!(Gr y.Gap 0 3600000))) || (!(Gr y.Break 0 3600000))) with
    | true=>exact ⟨1,by simp,by simp,fun h=>by cases h⟩
    | false =>
     simp only [Bool.false_eq_true,if_false]
     have hy : Mg y:=by
      simp [Gr] at hr
      unfold Mg
      omega
     have h:=ih (dn ++ [y]) (Si m y.Key true) (by rw [hl]; simp) (fun k=>?_) (fun x hx=>?_)
     ·rw [List.length_append,List.length_singleton] at h
      exact h
     ·rw [DB,List.any_append,← hm]
      by_cases hk2 : k = y.Key
      ·simp [hk2]
      ·have : ¬ y.Key = k:=fun e=>hk2 e.symm
       simp [hk2,this]
     ·rcases List.mem_append.1 hx with h | h
      ·exact hg x h
      ·rw [List.mem_singleton] at h; subst h; exact hy
theorem FU (l : List An) : ∃ e,Jq l = some e ∧ Kr l = some e ∧ (e = 0 → l.length ≤ 100 ∧ ∀ x ∈ l,Mg x):=by
 unfold Jq Kr
 by_cases h : 100 < (l.length : Int)
 ·rw [if_pos (decide_eq_true h),if_pos (decide_eq_true h)]
  exact ⟨2,rfl,rfl,fun h=>by cases h⟩
 ·rw [if_neg (by simpa using h),if_neg (by simpa using h),Nn,Nn]
  obtain ⟨e,h1,h2,h3⟩:=GY l l [] [] rfl (fun _=>rfl) (fun _ h=>by cases h)
  exact ⟨e,h1,h2,fun he=>⟨by omega,h3 he⟩⟩
end Go.Proofs.YtlndicofaomdaaaGreatDoor
namespace Go.Proofs.YtlndicofaomdaaaGreatDoor
open Go

def hs (y : An) : Nat → Int → Int → List Fb
 | 0,_,_=>[]
 | k + 1,h,t=>Fb.mk y.Key h (Jj.mk t (t + y.Long)) :: hs y k (h + 1) (t + y.Long + y.Gap)
def Sl (y : An) : Nat → Int → Int
 | 0,t=>t
 | 1,t=>t + y.Long
 | k + 2,t=>Sl y (k + 1) (t + y.Long + y.Gap)
theorem EP (y : An) : ∀ k h t,(hs y k h t).length = k
 | 0,_,_=>rfl
 | k + 1,h,t=>by simp [hs,EP y k]
theorem Rj (y : An) (hy : Mg y) : ∀ k t,t ≤ Sl y k t ∧ Sl y k t ≤ t + k * 7200000
 | 0,t=>by simp [Sl]
 | 1,t=>by unfold Mg at hy; simp [Sl]; omega
 | k + 2,t=>by
  have:=Rj y hy (k + 1) (t + y.Long + y.Gap)
  unfold Mg at hy
  simp only [Sl]
  push_cast at this ⊢
  omega
def tt : List An → Int → List Fb
 | [],_=>[]
 | y :: ys,t=>hs y y.Heats.toNat 1 t ++ tt ys (Sl y y.Heats.toNat t + y.Break)
theorem tt_l2 (y : An) (hy : Mg y) (j2 : List Fb → Int → Option (List Fb)) : ∀ (k m : Nat) (x3 : List Fb) (x4 x5 : Int),y.Heats - x5 + 1 = k → 1 ≤ x5 → k < m → x3.length + k < 1073741824 → 0 ≤ x4 → x4 + k * 7200000 ≤ 4611686018427387904 →
  Ix y j2 m x3 x4 x5 = j2 (x3 ++ hs y k x5 x4) (Sl y k x4):=by
 intro k
 induction k with
 | zero =>
  intro m x3 x4 x5 hk h1 hm hr h0 hb
  obtain ⟨m',rfl⟩ : ∃ m',m = m' + 1:=⟨m - 1,by omega⟩
  rw [Ix,if_neg (by simp; omega)]
  simp [hs,Sl]
 | succ k ih =>
  intro m x3 x4 x5 hk h1 hm hr h0 hb
  obtain ⟨m',rfl⟩ : ∃ m',m = m' + 1:=⟨m - 1,by omega⟩
  have hg:=hy
  unfold Mg at hg
  have w1 : W (x4 + y.Long) = x4 + y.Long:=Km (by omega) (by omega)
  have w2 : W (x4 + y.Long + y.Gap) = x4 + y.Long + y.Gap:=Km (by omega) (by omega)
  have w3 : W (x5 + 1) = x5 + 1:=Km (by omega) (by omega)
  have hroom : Pa x3.length = true:=by unfold Pa; simp; omega
  rw [Ix,if_pos (by simp; omega)]
  simp only [Nn]
  rw [Lh hroom,w1,w2,w3]
  by_cases hlast : x5 < y.Heats
  ·rw [if_pos (decide_eq_true hlast)]
   obtain ⟨k',rfl⟩ : ∃ k',k = k' + 1:=⟨k - 1,by omega⟩
   rw [ih m' _ _ _ (by omega) (by omega) (by omega) (by simp; omega) (by omega) (by push_cast at hb ⊢; omega)]
   simp [hs,Sl]
  ·rw [if_neg (by simpa using hlast)]
   have hk0 : k = 0:=by omega
   subst hk0
   rw [ih m' _ _ _ (by omega) (by omega) (by omega) (by simp; omega) (by omega) (by push_cast at hb ⊢; omega)]
   simp [hs,Sl]
theorem tt_l1 : ∀ (l : List An) (i : Nat) (x1 : List Fb) (x2 : Int),(∀ x ∈ l,Mg x) → l.length ≤ 100 → x1.length + l.length * 60 < 1073741824 → 0 ≤ x2 → x2 + l.length * 435600000 ≤ 4611686018427387904 →
  Iy (fun x=>some x) l i x1 x2 = some (x1 ++ tt l x2)
 | [],i,x1,x2,_,_,_,_,_=>by simp [Iy,tt]
 | y :: l,i,x1,x2,hg,hl,hr,h0,hb=>by
  have hy:=hg y List.mem_cons_self
  have hgood:=hy
  unfold Mg at hgood
  have hk : y.Heats.toNat ≤ 60:=by omega
  simp only [List.length_cons] at hr hb hl
  push_cast at hb
  have hbd:=Rj y hy y.Heats.toNat x2
  have w1 : W (Sl y y.Heats.toNat x2 + y.Break) = Sl y y.Heats.toNat x2 + y.Break:=Km (by omega) (by omega)
  rw [Iy]
  simp only [Nn]
  rw [tt_l2 y hy _ y.Heats.toNat _ x1 x2 1 (by omega) (by omega) (by omega) (by omega) h0 (by omega),w1]
  rw [tt_l1 l (i + 1) _ _ (fun x hx=>hg x (List.mem_cons_of_mem _ hx)) (by omega) (by simp [EP]; omega) (by omega) (by omega)]
  simp [tt]
theorem Yx (l : List An) (t : Int) (hg : ∀ x ∈ l,Mg x) (hl : l.length ≤ 100) (h0 : 0 ≤ t) (h1 : t ≤ 345686400000) : Mx l t = some (tt l t):=by
 unfold Mx
 rw [Nn,tt_l1 l 0 [] t hg hl (by simp; omega) h0 (by omega)]
 simp
end Go.Proofs.YtlndicofaomdaaaGreatDoor
namespace Go.Proofs.YtlndicofaomdaaaGreatDoor
open Go

theorem FV {α : Type} [Inhabited α] (xs : List α) (s : α) (h : xs.length < 1073741824) : nth (xs ++ [s]) (W (((xs ++ [s]).length : Int) - 1)) = s:=by
 have w : W (((xs ++ [s]).length : Int) - 1) = (xs.length : Int):=by
  simp only [List.length_append,List.length_singleton]
  rw [Km (by push_cast; omega) (by push_cast; omega)]
  push_cast; omega
 rw [w]
 unfold nth
 rw [Int.toNat_natCast]
 simp [List.getD]
theorem BF {α : Type} (xs : List α) (s : α) (h : xs.length < 1073741824) : inB (W (((xs ++ [s]).length : Int) - 1)) (xs ++ [s]).length = true:=by
 have w : W (((xs ++ [s]).length : Int) - 1) = (xs.length : Int):=by
  simp only [List.length_append,List.length_singleton]
  rw [Km (by push_cast; omega) (by push_cast; omega)]
  push_cast; omega
 rw [w]
 exact Hu.2 ⟨by omega,by simp; omega⟩
theorem EQ (y : An) : ∀ k h t,∃ pre s,hs y (k + 1) h t = pre ++ [s] ∧ s.Time.To = Sl y (k + 1) t
 | 0,h,t=>⟨[],_,rfl,rfl⟩
 | k + 1,h,t=>by
  obtain ⟨pre,s,h1,h2⟩:=EQ y k (h + 1) (t + y.Long + y.Gap)
  exact ⟨_ :: pre,s,by rw [hs,h1]; rfl,by rw [h2]; rfl⟩
def Starts (l : List An) (from_ : Int) (y : An) (i : Nat) (x2 : List Fb) (x3 T : Int) : Prop :=
 (x2 = [] ∧ T = from_) ∨ ∃ pre s,x2 = pre ++ [s] ∧ T = s.Time.To + (if x3 = 1 then (nth l (W ((i : Int) - 1))).Break else y.Gap) ∧ (x3 = 1 → inB (W ((i : Int) - 1)) l.length = true)
theorem LC (l : List An) (from_ : Int) (y : An) (i : Nat) (hy : Mg y) (j2 : List Fb → Option (List Fb)) : ∀ (k m : Nat) (x2 : List Fb) (x3 T : Int),y.Heats - x3 + 1 = k → 1 ≤ x3 → k < m → x2.length + k < 1073741824 → 0 ≤ T →
  T + k * 7200000 ≤ 4611686018427387904 → (0 < k → Starts l from_ y i x2 x3 T) → Io y i l from_ j2 m x2 x3 = j2 (x2 ++ hs y k x3 T):=by
 intro k
 induction k with
 | zero =>
  intro m x2 x3 T hk h1 hm hr h0 hb _
  obtain ⟨m',rfl⟩ : ∃ m',m = m' + 1:=⟨m - 1,by omega⟩
  rw [Io,if_neg (by simp; omega)]
  simp [hs]
 | succ k ih =>
  intro m x2 x3 T hk h1 hm hr h0 hb hst
  obtain ⟨m',rfl⟩ : ∃ m',m = m' + 1:=⟨m - 1,by omega⟩
  have hg:=hy
  unfold Mg at hg
  push_cast at hb
  have w1 : W (T + y.Long) = T + y.Long:=Km (by omega) (by omega)
  have w3 : W (x3 + 1) = x3 + 1:=Km (by omega) (by omega)
  have hroom : Pa x2.length = true:=by unfold Pa; simp; omega
  have step : Chk (Pa x2.length) (Io y i l from_ j2 m' (x2 ++ [(Fb.mk y.Key x3 (Jj.mk T (W (T + y.Long))))]) (W (x3 + 1))) = j2 (x2 ++ hs y (k + 1) x3 T):=by
   rw [Lh hroom,w1,w3,ih m' _ (x3 + 1) (T + y.Long + y.Gap) (by omega) (by omega) (by omega) (by simp; omega) (by omega) (by omega)]
   ·simp [hs]
   ·intro _
    refine .inr ⟨x2,_,rfl,?_,fun h=>by omega⟩
    rw [if_neg (by omega)]
  rw [Io,if_pos (by simp; omega)]
  simp only [Nn]
  rcases hst (by omega) with ⟨rfl,rfl⟩ | ⟨pre,s,rfl,hT,hin⟩
  ·rw [if_neg (by simp)]
   exact step
  ·have hp : pre.length < 1073741824:=by simp at hr; omega
   rw [if_pos (by simp),Lh (BF pre s hp),FV pre s hp]
   by_cases h3 : x3 = 1
   ·rw [if_pos (decide_eq_true h3),Lh (BF pre s hp),Lh (hin h3)]
    rw [if_pos h3] at hT
    rw [show W (s.Time.To + (nth l (W ((i : Int) - 1))).Break) = T by rw [← hT]; exact Km (by omega) (by omega)]
    exact step
   ·rw [if_neg (by simpa using h3)]
    rw [if_neg h3] at hT
    rw [show W (s.Time.To + y.Gap) = T by rw [← hT]; exact Km (by omega) (by omega)]
    exact step
theorem LD (l : List An) (from_ : Int) : ∀ (ys dn : List An) (x1 : List Fb) (T : Int),l = dn ++ ys → l.length ≤ 100 → (∀ x ∈ ys,Mg x) →
  ((x1 = [] ∧ dn = [] ∧ T = from_) ∨ ∃ pre s d pr,x1 = pre ++ [s] ∧ dn = d ++ [pr] ∧ T = s.Time.To + pr.Break) → x1.length + ys.length * 60 < 1073741824 → 0 ≤ T → T + ys.length * 435600000 ≤ 4611686018427387904 →
  Jg l from_ (fun x=>some x) ys dn.length x1 = some (x1 ++ tt ys T):=by
 intro ys
 induction ys with
 | nil=>intro dn x1 T _ _ _ _ _ _ _; simp [Jg,tt]
 | cons y ys ih =>
  intro dn x1 T hl h100 hg hst hr h0 hb
  have hy:=hg y List.mem_cons_self
  have hgood:=hy
  unfold Mg at hgood
  have hk : y.Heats.toNat ≤ 60:=by omega
  simp only [List.length_cons] at hr hb
  push_cast at hb
  have hbd:=Rj y hy y.Heats.toNat T
  have hlen : dn.length + ys.length + 1 ≤ 100:=by rw [hl] at h100; simp at h100; omega
  rw [Jg]
  simp only [Nn]
  rw [LC l from_ y dn.length hy _ y.Heats.toNat _ x1 1 T (by omega) (by omega) (by omega) (by omega) h0 (by omega)]
  ·obtain ⟨k,hk1⟩ : ∃ k,y.Heats.toNat = k + 1:=⟨y.Heats.toNat - 1,by omega⟩
   obtain ⟨pre,s,e1,e2⟩:=EQ y k 1 T
   have h:=ih (dn ++ [y]) (x1 ++ hs y y.Heats.toNat 1 T) (Sl y y.Heats.toNat T + y.Break) (by rw [hl]; simp) h100 (fun x hx=>hg x (List.mem_cons_of_mem _ hx)) ?_ (by simp [EP]; omega) (by omega) (by omega)
   ·rw [List.length_append,List.length_singleton] at h
    rw [h]
    simp [tt]
   ·refine .inr ⟨x1 ++ pre,s,dn,y,?_,rfl,?_⟩
    ·rw [hk1,e1]; simp
    ·rw [hk1,← e2]
  ·intro _
   rcases hst with ⟨rfl,rfl,rfl⟩ | ⟨pre,s,d,pr,rfl,rfl,hT⟩
   ·exact .inl ⟨rfl,rfl⟩
   ·have w : W (((d ++ [pr]).length : Int) - 1) = (d.length : Int):=by
     simp only [List.length_append,List.length_singleton] at hlen ⊢
     rw [Km (by push_cast; omega) (by push_cast; omega)]
     push_cast; omega
    refine .inr ⟨pre,s,rfl,?_,fun _=>?_⟩
    ·rw [if_pos rfl,hT,w,hl]
     unfold nth
     rw [Int.toNat_natCast]
     simp [List.getD]
    ·rw [w,hl]
     exact Hu.2 ⟨by omega,by simp; omega⟩
theorem FW (l : List An) (t : Int) (hg : ∀ x ∈ l,Mg x) (hl : l.length ≤ 100) (h0 : 0 ≤ t) (h1 : t ≤ 345686400000) : Ns l t = some (tt l t):=by
 unfold Ns
 rw [Nn]
 have h:=LD l t l [] [] t rfl hl hg (.inl ⟨rfl,rfl,rfl⟩) (by simp; omega) h0 (by omega)
 simpa using h
end Go.Proofs.YtlndicofaomdaaaGreatDoor
namespace Go.Proofs.YtlndicofaomdaaaGreatDoor
open Go

theorem Zs : ∀ (l : List An) (t : Int),(∀ x ∈ l,Mg x) → (tt l t).length ≤ l.length * 60
 | [],_,_=>by simp [tt]
 | y :: l,t,hg=>by
  have h:=Zs l (Sl y y.Heats.toNat t + y.Break) (fun x hx=>hg x (List.mem_cons_of_mem _ hx))
  have hy:=hg y List.mem_cons_self
  unfold Mg at hy
  simp [tt,EP]
  omega
def Mu (l : List Fb) (t : Int) : Int:=match l.getLast? with
 | some s=>s.Time.To
 | none=>t
theorem LE (l : List Fb) (t : Int) (h : l.length < 1073741824) : Qh l t = some (Mu l t):=by
 unfold Qh
 rcases List.eq_nil_or_concat l with rfl | ⟨pre,s,rfl⟩
 ·rfl
 ·simp only [List.concat_eq_append] at h ⊢
  have hp : pre.length < 1073741824:=by simp at h; omega
  rw [if_neg (by simp; omega),Lh (BF pre s hp),FV pre s hp]
  simp [Mu]
theorem BG : ∀ (l : List Fb) (i : Nat) (t : Int),Kh (fun x=>some x) l i t = some (Mu l t)
 | [],_,_=>rfl
 | s :: l,i,t=>by
  rw [Kh,BG l (i + 1)]
  cases l with
  | nil=>rfl
  | cons a r=>simp [Mu,List.getLast?_cons_cons]; rfl
theorem LF (l : List An) (t : Int) (hg : ∀ x ∈ l,Mg x) (hl : l.length ≤ 100) (h0 : 0 ≤ t) (h1 : t ≤ 345686400000) : Qi l t = some (Mu (tt l t) t):=by
 unfold Qi
 rw [FW l t hg hl h0 h1]
 simp only [Option.bind_some,Nn]
 exact BG _ 0 t
end Go.Proofs.YtlndicofaomdaaaGreatDoor
namespace Go.Proofs.YtlndicofaomdaaaGreatDoor
open Go

end Go.Proofs.YtlndicofaomdaaaGreatDoor
namespace Go.Proofs.YtlndicofaomdaaaGreatDoor
open Go
end Go.Proofs.YtlndicofaomdaaaGreatDoor
namespace Go.Proofs.YtlndicofaomdaaaGreatDoor
open Go
end Go.Proofs.YtlndicofaomdaaaGreatDoor
namespace Go.Proofs.YtlndicofaomdaaaGreatDoor
open Go
def ixN : List An → ByteArray → Option Nat
 | [],_=>none
 | y :: ys,key=>if y.Key = key then some 0 else (ixN ys key).map (· + 1)
def ixI (l : List An) (key : ByteArray) : Int:=match ixN l key with
 | some k=>k
 | none=>-1
theorem IH (key : ByteArray) : ∀ (l : List An) (i : Nat),Gc key (-1) l i = match ixN l key with | some k=>((i + k : Nat) : Int) | none=>-1
 | [],i=>rfl
 | y :: ys,i=>by
  rw [Gc,ixN]
  unfold Qb
  by_cases h : y.Key = key
  ·simp [h]
  ·rw [if_neg (by simpa using h),if_neg h,IH key ys (i + 1)]
   cases ixN ys key with
   | none=>rfl
   | some k=>simp only [Option.map_some]; congr 1; omega
theorem II (key : ByteArray) : ∀ (l : List An) (i : Nat),Ft key (-1) l i = match ixN l key with | some k=>((i + k : Nat) : Int) | none=>-1
 | [],i=>rfl
 | y :: ys,i=>by
  rw [Ft,ixN]
  unfold Nw
  by_cases h : y.Key = key
  ·simp [h]
  ·rw [if_neg (by simpa using h),if_neg h,II key ys (i + 1)]
   cases ixN ys key with
   | none=>rfl
   | some k=>simp only [Option.map_some]; congr 1; omega
theorem Xa (l : List An) (key : ByteArray) : Ez l key = ixI l key:=by
 unfold Ez Jv ixI
 rw [Nn,IH]; simp
theorem IJ (l : List An) (key : ByteArray) : Gl l key = ixI l key:=by
 unfold Gl Js ixI
 rw [Nn,II]; simp
theorem BH : ∀ {l : List An} {key : ByteArray} {k : Nat},ixN l key = some k → k < l.length
 | [],_,_,h=>by cases h
 | y :: ys,key,k,h=>by
  rw [ixN] at h
  split at h
  ·cases h; simp
  ·cases hq : ixN ys key with
   | none=>rw [hq] at h; cases h
   | some q=>rw [hq] at h; cases h; have:=BH hq; simp; omega
end Go.Proofs.YtlndicofaomdaaaGreatDoor
namespace Go.Proofs.YtlndicofaomdaaaGreatDoor
open Go
theorem IK : ∀ l : List UInt8,Lib.compareBytes l l = 0
 | []=>rfl
 | a :: l=>by
  rw [Lib.compareBytes,if_neg (by simp),if_neg (by simp)]; exact IK l
theorem IL : ∀ l m : List UInt8,Lib.compareBytes l m = 0 → l = m
 | [],[],_=>rfl
 | [],_ :: _,h=>by simp [Lib.compareBytes] at h
 | _ :: _,[],h=>by simp [Lib.compareBytes] at h
 | a :: l,b :: m,h=>by
  rw [Lib.compareBytes] at h
  split at h
  ·cases h
  ·split at h
   ·cases h
   ·rename_i h1 h2
    rw [UInt8.lt_iff_toNat_lt] at h1 h2
    rw [IL l m h,show a = b from UInt8.toNat_inj.1 (by omega)]
theorem LG : ∀ l m : List UInt8,Lib.compareBytes l m = -1 ∨ Lib.compareBytes l m = 0 ∨ Lib.compareBytes l m = 1
 | [],[]=>.inr (.inl rfl)
 | [],_ :: _=>.inl rfl
 | _ :: _,[]=>.inr (.inr rfl)
 | a :: l,b :: m=>by
  rw [Lib.compareBytes]
  split
  ·exact .inl rfl
  ·split
   ·exact .inr (.inr rfl)
   ·exact LG l m
theorem IM : ∀ l m : List UInt8,Lib.compareBytes m l = - Lib.compareBytes l m
 | [],[]=>rfl
 | [],_ :: _=>rfl
 | _ :: _,[]=>rfl
 | a :: l,b :: m=>by
  rw [Lib.compareBytes,Lib.compareBytes,IM l m]
  simp only [UInt8.lt_iff_toNat_lt]
  by_cases h1 : a.toNat < b.toNat
  ·rw [if_neg (by omega),if_pos h1,if_pos h1]; rfl
  ·by_cases h2 : b.toNat < a.toNat
   ·rw [if_pos h2,if_neg h1,if_pos h2]
   ·rw [if_neg h2,if_neg h1,if_neg h1,if_neg h2]
theorem FX : ∀ l m k : List UInt8,Lib.compareBytes l m < 0 → Lib.compareBytes m k < 0 → Lib.compareBytes l k < 0
 | l,m,[],_,h=>by cases m <;> simp [Lib.compareBytes] at h
 | [],m,c :: k,_,_=>by simp [Lib.compareBytes]
 | a :: l,[],c :: k,h,_=>by simp [Lib.compareBytes] at h
 | a :: l,b :: m,c :: k,h1,h2=>by
  rw [Lib.compareBytes] at h1 h2 ⊢
  simp only [UInt8.lt_iff_toNat_lt] at h1 h2 ⊢
  by_cases g1 : a.toNat < b.toNat
  ·by_cases g2 : c.toNat < b.toNat
   ·rw [if_neg (by omega),if_pos g2] at h2; cases h2
   ·rw [if_pos (by omega)]; decide
  ·by_cases g1' : b.toNat < a.toNat
   ·rw [if_neg g1,if_pos g1'] at h1; cases h1
   ·rw [if_neg g1,if_neg g1'] at h1
    by_cases g2 : b.toNat < c.toNat
    ·rw [if_pos (by omega)]; decide
    ·by_cases g3 : c.toNat < b.toNat
     ·rw [if_neg g2,if_pos g3] at h2; cases h2
     ·rw [if_neg g2,if_neg g3] at h2
      rw [if_neg (by omega),if_neg (by omega)]
      exact FX l m k h1 h2
def cB (s t : ByteArray) : Int:=Lib.compareBytes s.data.toList t.data.toList
theorem Tg (s : ByteArray) : cB s s = 0:=IK _
theorem Vr {s t : ByteArray} (h : cB s t = 0) : s = t:=by
 have:=IL _ _ h
 cases s; cases t
 simpa using this
theorem cB_eq {s t : ByteArray} : cB s t = 0 ↔ s = t:=⟨Vr,fun h=>by rw [h]; exact Tg t⟩
theorem cB_rng (s t : ByteArray) : cB s t = -1 ∨ cB s t = 0 ∨ cB s t = 1:=LG _ _
theorem cB_flip (s t : ByteArray) : cB t s = - cB s t:=IM _ _
theorem Un {s t u : ByteArray} (h1 : cB s t < 0) (h2 : cB t u < 0) : cB s u < 0:=FX _ _ _ h1 h2
def leB (s t : ByteArray) : Prop:=cB s t < 0 ∨ s = t
theorem Yy : ∀ l m : List UInt8,Op.bytesLess l m = decide (Lib.compareBytes l m < 0)
 | [],[]=>rfl
 | [],_ :: _=>rfl
 | _ :: _,[]=>rfl
 | a :: l,b :: m=>by
  rw [Op.bytesLess,Lib.compareBytes]
  simp only [UInt8.lt_iff_toNat_lt]
  by_cases h1 : a.toNat < b.toNat
  ·simp [h1]
  ·by_cases h2 : b.toNat < a.toNat
   ·have : a ≠ b:=by rintro rfl; omega
    simp [h1,h2,this]
   ·have : a = b:=UInt8.toNat_inj.1 (by omega)
    simp [this,Yy l m]
theorem LH (s t : ByteArray) : Yf s t = decide (cB s t < 0):=by
 unfold Yf cB
 rw [Yy,ByteArray.toList_eq,ByteArray.toList_eq]
end Go.Proofs.YtlndicofaomdaaaGreatDoor
namespace Go.Proofs.YtlndicofaomdaaaGreatDoor
open Go
theorem Lk {κ R : Type} (K : κ) (f : κ → R) : Ib K f = f K:=rfl
theorem Lb {R : Type} {c : Bool} {k : Option R} (h : c = true) : Chk c k = k:=by subst h; rfl
section
variable {α R : Type}
theorem GZ (C : α → (Bool → R) → R) (p : α → Bool) (j : R) (o : Int → R) (F : List α → Nat → R) (h0 : ∀ i,F [] i = j) (h1 : ∀ y ys i,F (y :: ys) i = C y (fun b=>if b then o (i : Int) else F ys (i + 1))) :
  ∀ (l : List α) (i : Nat),(∀ x ∈ l,∀ k,C x k = k (p x)) → (∃ pre y post,l = pre ++ y :: post ∧ (∀ x ∈ pre,p x = false) ∧ p y = true ∧ F l i = o ((i + pre.length : Nat) : Int)) ∨ ((∀ x ∈ l,p x = false) ∧ F l i = j)
 | [],i,_=>.inr ⟨fun _ h=>(List.not_mem_nil h).elim,h0 i⟩
 | y :: ys,i,hC=>by
  rw [h1,hC y List.mem_cons_self]
  cases hy : p y with
  | true=>exact .inl ⟨[],y,ys,rfl,fun _ h=>(List.not_mem_nil h).elim,hy,by simp⟩
  | false =>
   simp only [Bool.false_eq_true,if_false]
   rcases GZ C p j o F h0 h1 ys (i + 1) (fun x hx=>hC x (List.mem_cons_of_mem _ hx)) with ⟨pre,z,post,e,g1,g2,g3⟩ | ⟨g1,g2⟩
   ·refine .inl ⟨y :: pre,z,post,by rw [e]; rfl,fun x hx=>?_,g2,by rw [g3]; congr 2; simp; omega⟩
    rcases List.mem_cons.1 hx with rfl | hx
    ·exact hy
    ·exact g1 x hx
   ·refine .inr ⟨fun x hx=>?_,g2⟩
    rcases List.mem_cons.1 hx with rfl | hx
    ·exact hy
    ·exact g1 x hx
variable [Inhabited α]
theorem Xb (a : List α) (y : α) (b : List α) {e : Int} (he : e = (a.length : Int)) : nth (a ++ y :: b) e = y:=by
 subst he
 simp [nth]
theorem Yz (C : α → (Bool → Option R) → Option R) (p : α → Bool) (j : List α → Int → Option R) (F : Nat → List α → Int → Int → Option R)
  (h : ∀ m x1 x2 x3,F (m + 1) x1 x2 x3 = if decide (x3 < (x1.length : Int)) then Chk (inB x3 x1.length) (C (nth x1 x3) (fun b=>if !b then Chk (inB x2 x1.length) (F m (x1.set x2.toNat (nth x1 x3)) (W (x2 + 1)) (W (x3 + 1))) else F m x1 x2 (W (x3 + 1)))) else j x1 x2) :
  ∀ (rest kept mid : List α) (m : Nat),rest.length < m → kept.length + mid.length + rest.length ≤ 1073741824 → (∀ x ∈ rest,∀ k,C x k = k (p x)) →
   ∃ mid',F m (kept ++ mid ++ rest) (kept.length : Int) ((kept.length + mid.length : Nat) : Int) = j (kept ++ rest.filter (fun x=>!p x) ++ mid') ((kept ++ rest.filter (fun x=>!p x)).length : Int)
 | [],kept,mid,m,h1,h2,_=>by
  obtain ⟨m,rfl⟩ : ∃ q,m = q + 1:=⟨m - 1,by omega⟩
  rw [h,if_neg (by simp)]
  exact ⟨mid,by simp⟩
 | y :: r,kept,mid,m,h1,h2,hC=>by
  obtain ⟨m,rfl⟩ : ∃ q,m = q + 1:=⟨m - 1,by omega⟩
  simp only [List.length_cons] at h1 h2
  have hn : nth (kept ++ mid ++ y :: r) ((kept.length + mid.length : Nat) : Int) = y:=Xb _ _ _ (by simp)
  rw [h,if_pos (by simp; omega),Lb (Hu.2 (by simp; omega)),hn,hC y List.mem_cons_self]
  have w1 : W (((kept.length + mid.length : Nat) : Int) + 1) = ((kept.length + mid.length + 1 : Nat) : Int):=by rw [Km (by omega) (by omega)]; rfl
  have w2 : W ((kept.length : Int) + 1) = ((kept.length + 1 : Nat) : Int):=by rw [Km (by omega) (by omega)]; rfl
  cases hy : p y with
  | true =>
   simp only [Bool.not_true,Bool.false_eq_true,if_false,w1]
   obtain ⟨mid',e⟩:=Yz C p j F h r kept (mid ++ [y]) m (by omega) (by simp; omega) (fun x hx=>hC x (List.mem_cons_of_mem _ hx))
   refine ⟨mid',?_⟩
   have e1 : kept ++ mid ++ y :: r = kept ++ (mid ++ [y]) ++ r:=by simp
   have e2 : (y :: r).filter (fun x=>!p x) = r.filter (fun x=>!p x):=by simp [hy]
   rw [e1,e2,← e]
   congr 2
   simp
   omega
  | false =>
   simp only [Bool.not_false,if_true,w1,w2]
   rw [Lb (Hu.2 (by simp; omega))]
   have e2 : (y :: r).filter (fun x=>!p x) = y :: r.filter (fun x=>!p x):=by simp [hy]
   cases mid with
   | nil =>
    obtain ⟨mid',e⟩:=Yz C p j F h r (kept ++ [y]) [] m (by omega) (by simp; omega) (fun x hx=>hC x (List.mem_cons_of_mem _ hx))
    refine ⟨mid',?_⟩
    have e1 : (kept ++ [] ++ y :: r).set (kept.length : Int).toNat y = kept ++ [y] ++ [] ++ r:=by simp
    rw [e1,e2]
    have e3 : kept ++ y :: r.filter (fun x=>!p x) = kept ++ [y] ++ r.filter (fun x=>!p x):=by simp
    rw [e3,← e]
    simp
   | cons z mid0 =>
    obtain ⟨mid',e⟩:=Yz C p j F h r (kept ++ [y]) (mid0 ++ [y]) m (by omega) (by simp at h2 ⊢; omega) (fun x hx=>hC x (List.mem_cons_of_mem _ hx))
    refine ⟨mid',?_⟩
    have e1 : (kept ++ z :: mid0 ++ y :: r).set (kept.length : Int).toNat y = kept ++ [y] ++ (mid0 ++ [y]) ++ r:=by simp
    rw [e1,e2]
    have e3 : kept ++ y :: r.filter (fun x=>!p x) = kept ++ [y] ++ r.filter (fun x=>!p x):=by simp
    rw [e3,← e]
    congr 1
    ·simp
    ·simp
     omega
omit [Inhabited α] in
theorem IP (a b : List α) (z : α) : Ql (a.length : Int) ((a ++ b).length : Int) (a ++ b).length = true ∧ Ql 0 (a.length : Int) (clr (a ++ b) (a.length : Int) ((a ++ b).length : Int) z).length = true ∧ cut (clr (a ++ b) (a.length : Int) ((a ++ b).length : Int) z) 0 (a.length : Int) = a:=by
 refine ⟨Nt.2 (by simp; omega),Nt.2 ⟨by omega,by omega,by simp [clr]; omega⟩,?_⟩
 simp [cut,clr]
def Tp (lt : α → α → Bool) (x : α) : List α → List α
 | []=>[x]
 | y :: r=>if lt x y then y :: Tp lt x r else x :: y :: r
def Vw (lt : α → α → Bool) (l rp : List α) : List α:=l.foldl (fun rp x=>Tp lt x rp) rp
def Md (lt : α → α → Bool) (l : List α) : List α:=(Vw lt l []).reverse
omit [Inhabited α] in
theorem Ws (lt : α → α → Bool) (x : α) : ∀ l : List α,(Tp lt x l).length = l.length + 1
 | []=>rfl
 | y :: r=>by
  unfold Tp
  split
  ·simp [Ws lt x r]
  ·rfl
omit [Inhabited α] in
theorem Za (lt : α → α → Bool) (x z : α) : ∀ l : List α,z ∈ Tp lt x l ↔ z = x ∨ z ∈ l
 | []=>by simp [Tp]
 | y :: r=>by
  unfold Tp
  split
  ·simp only [List.mem_cons,Za lt x z r]
   constructor
   ·rintro (h | h | h)
    ·exact .inr (.inl h)
    ·exact .inl h
    ·exact .inr (.inr h)
   ·rintro (h | h | h)
    ·exact .inr (.inl h)
    ·exact .inl h
    ·exact .inr (.inr h)
  ·simp
theorem LI (C : α → α → (Bool → Option R) → Option R) (lt : α → α → Bool) (j : List α → Option R) (F : Nat → List α → Int → Option R)
  (h : ∀ m x i,F (m + 1) x i = if decide (0 < i) then Chk (inB i x.length) (Chk (inB (W (i - 1)) x.length) (C (nth x i) (nth x (W (i - 1))) (fun b=>if b then
   Chk (inB (W (i - 1)) x.length) (Chk (inB i x.length) (Chk (inB i x.length) (Chk (inB (W (i - 1)) (x.set i.toNat (nth x (W (i - 1)))).length) (F m ((x.set i.toNat (nth x (W (i - 1)))).set (W (i - 1)).toNat (nth x i)) (W (i - 1)))))) else j x))) else j x) :
  ∀ (rp : List α) (x : α) (post : List α) (m : Nat),rp.length < m → rp.length + post.length < 1073741824 → (∀ y ∈ rp,∀ k,C x y k = k (lt x y)) →
   F m (rp.reverse ++ x :: post) (rp.length : Int) = j ((Tp lt x rp).reverse ++ post)
 | [],x,post,m,h1,h2,_=>by
  obtain ⟨m,rfl⟩ : ∃ q,m = q + 1:=⟨m - 1,by omega⟩
  rw [h,if_neg (by simp)]
  rfl
 | y :: r,x,post,m,h1,h2,hC=>by
  obtain ⟨m,rfl⟩ : ∃ q,m = q + 1:=⟨m - 1,by omega⟩
  simp only [List.length_cons] at h1 h2
  have e0 : (y :: r).reverse ++ x :: post = r.reverse ++ y :: x :: post:=by simp
  have e0' : r.reverse ++ y :: x :: post = (r.reverse ++ [y]) ++ x :: post:=by simp
  have wi : W ((((y :: r).length : Nat) : Int) - 1) = (r.length : Int):=by rw [Km (by simp only [List.length_cons]; omega) (by simp only [List.length_cons]; omega)]; simp
  have n1 : nth (r.reverse ++ y :: x :: post) (((y :: r).length : Nat) : Int) = x:=by rw [e0']; exact Xb _ _ _ (by simp)
  have n2 : nth (r.reverse ++ y :: x :: post) (r.length : Int) = y:=Xb _ _ _ (by simp)
  have b1 : inB (((y :: r).length : Nat) : Int) (r.reverse ++ y :: x :: post).length = true:=Hu.2 ⟨by omega,by simp; omega⟩
  have b2 : inB (r.length : Int) (r.reverse ++ y :: x :: post).length = true:=Hu.2 (by simp; omega)
  rw [h,e0,if_pos (decide_eq_true (by simp only [List.length_cons]; omega)),wi,Lb b1,Lb b2,n1,n2,hC y List.mem_cons_self]
  unfold Tp
  cases hb : lt x y with
  | true =>
   simp only [if_true]
   rw [Lb b2,Lb b1,Lb b1,Lb (by rw [List.length_set]; exact b2)]
   have e1 : ((r.reverse ++ y :: x :: post).set (((y :: r).length : Nat) : Int).toNat y).set (r.length : Int).toNat x = r.reverse ++ x :: (y :: post):=by
    have e2 : (r.reverse ++ y :: x :: post).set (((y :: r).length : Nat) : Int).toNat y = r.reverse ++ y :: y :: post:=by
     rw [e0',show (((y :: r).length : Nat) : Int).toNat = (r.reverse ++ [y]).length by simp,List.set_append_right _ _ (Nat.le_refl _)]
     simp
    rw [e2,show (r.length : Int).toNat = r.reverse.length by simp,List.set_append_right _ _ (Nat.le_refl _)]
    simp
   rw [e1,LI C lt j F h r x (y :: post) m (by omega) (by simp; omega) (fun z hz=>hC z (List.mem_cons_of_mem _ hz))]
   simp
  | false=>simp
omit [Inhabited α] in
theorem ER (lt : α → α → Bool) (j : List α → Option R) (G : (List α → Option R) → List α → Int → Option R) (F : Nat → List α → Int → Option R) (n : Int)
  (h : ∀ m x i,F (m + 1) x i = if decide (i < n) then G (fun x=>F m x (W (i + 1))) x i else j x)
  (hG : ∀ k (rp : List α) (x : α) (post : List α),((rp ++ x :: post).length : Int) = n → (∀ y,y ∈ rp ∨ y = x ∨ y ∈ post → y ∈ (rp ++ x :: post)) → G k (rp.reverse ++ x :: post) (rp.length : Int) = k ((Tp lt x rp).reverse ++ post)) :
  ∀ (rest rp : List α) (m : Nat),rest.length < m → ((rp.length + rest.length : Nat) : Int) = n → rp.length + rest.length < 1073741824 →
   F m (rp.reverse ++ rest) (rp.length : Int) = j (Vw lt rest rp).reverse
 | [],rp,m,h1,h2,_=>by
  obtain ⟨m,rfl⟩ : ∃ q,m = q + 1:=⟨m - 1,by omega⟩
  rw [h,if_neg (by simp at h2; simp; omega)]
  simp [Vw]
 | x :: r,rp,m,h1,h2,h3=>by
  obtain ⟨m,rfl⟩ : ∃ q,m = q + 1:=⟨m - 1,by omega⟩
  simp only [List.length_cons] at h1 h2 h3
  rw [h,if_pos (by simp; omega),hG _ rp x r (by simp; omega) (fun y hy=>by simpa using hy),show W ((rp.length : Int) + 1) = ((Tp lt x rp).length : Int) by rw [Km (by omega) (by omega),Ws]; rfl,
   ER lt j G F n h hG r (Tp lt x rp) m (by omega) (by rw [Ws]; omega) (by rw [Ws]; omega)]
  rfl
omit [Inhabited α] in
theorem DD (lt : α → α → Bool) (z : α) : ∀ l rp : List α,z ∈ Vw lt l rp ↔ z ∈ l ∨ z ∈ rp
 | [],rp=>by simp [Vw]
 | x :: l,rp=>by
  show z ∈ Vw lt l (Tp lt x rp) ↔ _
  rw [DD lt z l,Za]
  simp only [List.mem_cons]
  constructor
  ·rintro (h | h | h)
   ·exact .inl (.inr h)
   ·exact .inl (.inl h)
   ·exact .inr h
  ·rintro ((h | h) | h)
   ·exact .inr (.inl h)
   ·exact .inl h
   ·exact .inr (.inr h)
omit [Inhabited α] in
end
end Go.Proofs.YtlndicofaomdaaaGreatDoor
namespace Go.Proofs.YtlndicofaomdaaaGreatDoor
open Go
section
variable {α : Type}
theorem DE {lt : α → α → Bool} (ht : ∀ x y z,lt x y = true → lt y z = true → lt x z = true) (x : α) : ∀ rp : List α,rp.Pairwise (fun a b=>lt b a = true) → (∀ y ∈ rp,lt x y = false → lt y x = true) → (Tp lt x rp).Pairwise fun a b=>lt b a = true
 | [],_,_=>by simp [Tp]
 | y :: r,h,hx=>by
  rw [List.pairwise_cons] at h
  unfold Tp
  cases hxy : lt x y with
  | true =>
   rw [if_pos rfl]
   refine List.pairwise_cons.2 ⟨fun z hz=>?_,DE ht x r h.2 fun z hz=>hx z (List.mem_cons_of_mem _ hz)⟩
   rcases (Za lt x z r).1 hz with rfl | hz
   ·exact hxy
   ·exact h.1 z hz
  | false =>
   rw [if_neg (by simp)]
   have h1:=hx y (by simp) hxy
   refine List.pairwise_cons.2 ⟨fun z hz=>?_,List.pairwise_cons.2 h⟩
   rcases List.mem_cons.1 hz with rfl | hz
   ·exact h1
   ·exact ht z y x (h.1 z hz) h1
theorem BI {lt : α → α → Bool} (ht : ∀ x y z,lt x y = true → lt y z = true → lt x z = true) : ∀ l rp : List α,rp.Pairwise (fun a b=>lt b a = true) → (∀ x ∈ l,∀ y ∈ rp,lt x y = false → lt y x = true) → l.Pairwise (fun a b=>lt b a = false → lt a b = true) →
  (Vw lt l rp).Pairwise fun a b=>lt b a = true
 | [],rp,h,_,_=>h
 | x :: l,rp,h,h1,h2=>by
  rw [List.pairwise_cons] at h2
  show (Vw lt l (Tp lt x rp)).Pairwise _
  refine BI ht l _ (DE ht x rp h (h1 x (by simp))) (fun z hz y hy=>?_) h2.2
  rcases (Za lt x y rp).1 hy with rfl | hy
  ·exact h2.1 z hz
  ·exact h1 z (List.mem_cons_of_mem _ hz) y hy
theorem JY {lt : α → α → Bool} (ht : ∀ x y z,lt x y = true → lt y z = true → lt x z = true) (l : List α) (h : l.Pairwise fun a b=>lt b a = false → lt a b = true) : (Md lt l).Pairwise fun a b=>lt a b = true:=by
 unfold Md
 rw [List.pairwise_reverse]
 exact BI ht l [] List.Pairwise.nil (fun _ _ _ h=>by cases h) h
theorem JZ (lt : α → α → Bool) (l : List α) (z : α) : z ∈ Md lt l ↔ z ∈ l:=by
 unfold Md
 rw [List.mem_reverse,DD]
 simp
theorem IQ {lt : α → α → Bool} (hi : ∀ x,lt x x = false) (ht : ∀ x y z,lt x y = true → lt y z = true → lt x z = true) : ∀ A B : List α,A.Pairwise (fun a b=>lt a b = true) → B.Pairwise (fun a b=>lt a b = true) → (∀ x,x ∈ A ↔ x ∈ B) → A = B
 | [],[],_,_,_=>rfl
 | [],b :: B,_,_,h=>by have:=(h b).2 (by simp); cases this
 | a :: A,[],_,_,h=>by have:=(h a).1 (by simp); cases this
 | a :: A,b :: B,hA,hB,h=>by
  rw [List.pairwise_cons] at hA hB
  have hab : a = b:=by
   rcases List.mem_cons.1 ((h a).1 (by simp)) with e | h1
   ·exact e
   ·rcases List.mem_cons.1 ((h b).2 (by simp)) with e | h2
    ·exact e.symm
    ·have:=ht a b a (hA.1 b h2) (hB.1 a h1)
     rw [hi] at this
     cases this
  subst hab
  have : A = B:=IQ hi ht A B hA.2 hB.2 fun x=>by
   have hx:=h x
   constructor
   ·intro hm
    rcases List.mem_cons.1 (hx.1 (List.mem_cons_of_mem _ hm)) with rfl | h3
    ·have:=hA.1 x hm; rw [hi] at this; cases this
    ·exact h3
   ·intro hm
    rcases List.mem_cons.1 (hx.2 (List.mem_cons_of_mem _ hm)) with rfl | h3
    ·have:=hB.1 x hm; rw [hi] at this; cases this
    ·exact h3
  rw [this]
theorem BJ (lt : α → α → Bool) : ∀ l rp : List α,(Vw lt l rp).length = l.length + rp.length
 | [],rp=>by simp [Vw]
 | x :: l,rp=>by
  show (Vw lt l (Tp lt x rp)).length = _
  rw [BJ lt l,Ws]
  simp only [List.length_cons]
  omega
theorem BK (lt : α → α → Bool) (l : List α) : (Md lt l).length = l.length:=by
 unfold Md
 rw [List.length_reverse,BJ]
 simp
theorem DF (lt : α → α → Bool) (x : α) : ∀ rp : List α,(Tp lt x rp).Perm (x :: rp)
 | []=>List.Perm.refl _
 | y :: r=>by
  unfold Tp
  split
  ·exact ((DF lt x r).cons y).trans (List.Perm.swap x y r)
  ·exact List.Perm.refl _
theorem BL (lt : α → α → Bool) : ∀ l rp : List α,(Vw lt l rp).Perm (l ++ rp)
 | [],_=>List.Perm.refl _
 | x :: l,rp=>(BL lt l (Tp lt x rp)).trans (((DF lt x rp).append_left l).trans List.perm_middle)
theorem HA (lt : α → α → Bool) (l : List α) : (Md lt l).Perm l:=by
 have h:=BL lt l []
 rw [List.append_nil] at h
 exact (List.reverse_perm _).trans h
def nbF [DecidableEq α] (p : α) : List α → List α
 | []=>[]
 | y :: r=>if y = p then nbF y r else y :: nbF y r
def nb [DecidableEq α] : List α → List α
 | []=>[]
 | x :: r=>x :: nbF x r
variable {R : Type} [Inhabited α]
theorem Oc {l : List α} {k : Nat} {y : α} (h : l[k]? = some y) : nth l (k : Int) = y:=by simp [nth,List.getD,h]
theorem LJ (z : α) (p : α → Bool) (Fi : List α → Nat → Int) (Fd : Nat → List α → Int → Int → Option (List α)) (hi0 : ∀ i,Fi [] i = -1) (hi1 : ∀ y ys i,Fi (y :: ys) i = if p y then (i : Int) else Fi ys (i + 1))
  (hd : ∀ m x1 x2 x3,Fd (m + 1) x1 x2 x3 = if decide (x3 < (x1.length : Int)) then Chk (inB x3 x1.length) (if !(p (nth x1 x3)) then Chk (inB x2 x1.length) (Fd m (x1.set x2.toNat (nth x1 x3)) (W (x2 + 1)) (W (x3 + 1))) else Fd m x1 x2 (W (x3 + 1)))
   else Chk (Ql x2 (x1.length : Int) x1.length) (Chk (Ql 0 x2 (clr x1 x2 (x1.length : Int) z).length) (some (cut (clr x1 x2 (x1.length : Int) z) (0 : Int) x2))))
  (v : List α) (hv : v.length < 1000000000) : (if decide (Fi v 0 = (-1)) then some v else Fd (((v.length : Int) - (W (Fi v 0 + 1))).toNat + 2) v (Fi v 0) (W (Fi v 0 + 1))) = some (v.filter fun b=>!p b):=by
 rcases GZ (fun x k=>k (p x)) p (-1) id Fi (fun i=>hi0 i) (fun y ys i=>hi1 y ys i) v 0 (fun _ _ _=>rfl) with ⟨pre,y,post,e,g1,g2,g3⟩ | ⟨g1,g2⟩
 ·rw [g3]
  have hn : ((0 + pre.length : Nat) : Int) = (pre.length : Int):=by simp
  have hlen : pre.length + 1 + post.length = v.length:=by rw [e]; simp; omega
  rw [if_neg (by simp only [id,decide_eq_true_eq]; omega),id,hn,show W ((pre.length : Int) + 1) = ((pre.length + ([y] : List α).length : Nat) : Int) by rw [Km (by omega) (by omega)]; simp]
  obtain ⟨mid,e2⟩:=Yz (fun x k=>k (p x)) p _ Fd (fun m x1 x2 x3=>hd m x1 x2 x3) post pre [y] (((v.length : Int) - ((pre.length + ([y] : List α).length : Nat) : Int)).toNat + 2) (by simp; omega) (by simp; omega) (fun _ _ _=>rfl)
  have e3 : v = pre ++ [y] ++ post:=by rw [e]; simp
  have e4 : (v.filter fun b=>!p b) = pre ++ post.filter fun b=>!p b:=by
   have h5 : (pre.filter fun b=>!p b) = pre:=List.filter_eq_self.2 fun x hx=>by simp [g1 x hx]
   conv=>lhs; arg 2; rw [e3]
   rw [List.filter_append,List.filter_append,h5]
   simp [g2]
  have e5 : ∀ w : List α,w = pre ++ [y] ++ post → Fd (((v.length : Int) - ((pre.length + ([y] : List α).length : Nat) : Int)).toNat + 2) w (pre.length : Int) ((pre.length + ([y] : List α).length : Nat) : Int) = some (v.filter fun b=>!p b):=by
   intro w hw
   rw [hw,e2]
   obtain ⟨c1,c2,c3⟩:=IP (pre ++ post.filter fun b=>!p b) mid z
   rw [Lb c1,Lb c2,c3,e4]
  exact e5 v e3
 ·rw [g2,if_pos (by simp [id])]
  congr 1
  exact (List.filter_eq_self.2 fun x hx=>by simp [g1 x hx]).symm
theorem ES [DecidableEq α] (k n : Nat) (j : List α → Int → Option R) (F : Nat → List α → Int → Int → Option R)
  (h : ∀ m x2 x3 x4,F (m + 1) x2 x3 x4 = if decide (x4 < (((n : Int).toNat - (k : Int).toNat : Nat) : Int)) then
   Chk (inB x4 ((n : Int).toNat - (k : Int).toNat)) (Chk (inB (W (x4 - 1)) ((n : Int).toNat - (k : Int).toNat)) (if !decide ((nth (cut x2 (k : Int) (n : Int)) x4) = (nth (cut x2 (k : Int) (n : Int)) (W (x4 - 1)))) then
    Chk (inB x4 ((n : Int).toNat - (k : Int).toNat)) (Chk (inB x3 x2.length) (F m (x2.set x3.toNat (nth (cut x2 (k : Int) (n : Int)) x4)) (W (x3 + 1)) (W (x4 + 1))))
   else F m x2 x3 (W (x4 + 1)))) else j x2 x3) (hn : n < 1000000000) :
  ∀ (rest kept mid : List α) (p : α) (m r : Nat),rest.length < m → (kept ++ mid ++ p :: rest).length = n → 1 ≤ r → kept.length + mid.length = k + r - 1 →
   ∃ mid',F m (kept ++ mid ++ p :: rest) (kept.length : Int) (r : Int) = j (kept ++ nbF p rest ++ mid') ((kept ++ nbF p rest).length : Int) ∧ (kept ++ nbF p rest ++ mid').length = n
 | [],kept,mid,p,m,r,h1,h2,h3,h4=>by
  obtain ⟨m,rfl⟩ : ∃ q,m = q + 1:=⟨m - 1,by omega⟩
  simp only [List.length_append,List.length_cons,List.length_nil] at h2
  rw [h,if_neg (by simp only [Int.toNat_natCast,decide_eq_true_eq]; omega)]
  exact ⟨mid ++ [p],by simp [nbF],by simp [nbF]; omega⟩
 | y :: rest,kept,mid,p,m,r,h1,h2,h3,h4=>by
  obtain ⟨m,rfl⟩ : ∃ q,m = q + 1:=⟨m - 1,by omega⟩
  have h2':=h2
  simp only [List.length_append,List.length_cons] at h1 h2'
  have hk : k ≤ n:=by omega
  have n1 : nth (cut (kept ++ mid ++ p :: y :: rest) (k : Int) (n : Int)) (r : Int) = y:=by
   have : (cut (kept ++ mid ++ p :: y :: rest) (k : Int) (n : Int))[r]? = some y:=by
    unfold cut
    simp only [Int.toNat_natCast]
    rw [List.take_of_length_le (by rw [h2]; omega),List.getElem?_drop,List.getElem?_append_right (by simp; omega)]
    have : k + r - (kept ++ mid).length = 1:=by simp; omega
    rw [this]
    rfl
   exact Oc this
  have n2 : nth (cut (kept ++ mid ++ p :: y :: rest) (k : Int) (n : Int)) (W ((r : Int) - 1)) = p:=by
   rw [Km (by omega) (by omega)]
   have hr : (r : Int) - 1 = ((r - 1 : Nat) : Int):=by omega
   rw [hr]
   have : (cut (kept ++ mid ++ p :: y :: rest) (k : Int) (n : Int))[r - 1]? = some p:=by
    unfold cut
    simp only [Int.toNat_natCast]
    rw [List.take_of_length_le (by rw [h2]; omega),List.getElem?_drop,List.getElem?_append_right (by simp; omega)]
    have : k + (r - 1) - (kept ++ mid).length = 0:=by simp; omega
    rw [this]
    rfl
   exact Oc this
  have w1 : W ((r : Int) + 1) = ((r + 1 : Nat) : Int):=by rw [Km (by omega) (by omega)]; rfl
  have w2 : W ((kept.length : Int) + 1) = ((kept.length + 1 : Nat) : Int):=by rw [Km (by omega) (by omega)]; rfl
  rw [h,if_pos (by simp only [Int.toNat_natCast,decide_eq_true_eq]; omega),Lb (Hu.2 (by simp only [Int.toNat_natCast]; omega)),Lb (Hu.2 (by simp only [Int.toNat_natCast]; rw [Km (by omega) (by omega)]; omega)),n1,n2,w1,w2]
  by_cases hy : y = p
  ·rw [if_neg (by simp [hy])]
   obtain ⟨mid',e,e'⟩:=ES k n j F h hn rest kept (mid ++ [p]) y m (r + 1) (by omega) (by simp; omega) (by omega) (by simp; omega)
   refine ⟨mid',?_,?_⟩
   ·have e1 : kept ++ (mid ++ [p]) ++ y :: rest = kept ++ mid ++ p :: y :: rest:=by simp
    rw [e1] at e
    rw [e]
    simp [nbF,hy]
   ·rw [← e']
    simp [nbF,hy]
  ·rw [if_pos (by simp [hy]),Lb (Hu.2 (by simp only [Int.toNat_natCast]; omega)),Lb (Hu.2 (by rw [h2]; omega))]
   cases mid with
   | nil =>
    obtain ⟨mid',e,e'⟩:=ES k n j F h hn rest (kept ++ [y]) [] y m (r + 1) (by omega) (by simp; omega) (by omega) (by simp at h4 ⊢; omega)
    refine ⟨mid',?_,?_⟩
    ·have e1 : (kept ++ [] ++ p :: y :: rest).set (kept.length : Int).toNat y = kept ++ [y] ++ [] ++ y :: rest:=by simp
     rw [e1]
     have e2 : ((kept.length + 1 : Nat) : Int) = ((kept ++ [y]).length : Int):=by simp
     rw [e2,e]
     simp [nbF,hy]
    ·rw [← e']
     simp [nbF,hy]
   | cons z mid0 =>
    obtain ⟨mid',e,e'⟩:=ES k n j F h hn rest (kept ++ [y]) (mid0 ++ [p]) y m (r + 1) (by omega) (by simp at h2' ⊢; omega) (by omega) (by simp at h4 ⊢; omega)
    refine ⟨mid',?_,?_⟩
    ·have e1 : (kept ++ z :: mid0 ++ p :: y :: rest).set (kept.length : Int).toNat y = kept ++ [y] ++ (mid0 ++ [p]) ++ y :: rest:=by simp
     rw [e1]
     have e2 : ((kept.length + 1 : Nat) : Int) = ((kept ++ [y]).length : Int):=by simp
     rw [e2,e]
     simp [nbF,hy]
    ·rw [← e']
     simp [nbF,hy]
end
end Go.Proofs.YtlndicofaomdaaaGreatDoor
namespace Go.Proofs.YtlndicofaomdaaaGreatDoor
open Go
theorem ET (x y : ByteArray) : Mj x y = cB x y:=by
 unfold Mj Nr
 rw [LH]
 rcases cB_rng x y with h | h | h
 ·simp [h]
 ·have:=Vr h
  subst this
  simp [Tg]
 ·have hne : x ≠ y:=by rintro rfl; rw [Tg] at h; cases h
  simp [h,hne]
theorem cmpI2 (x y : Int) : Hd x y = if x < y then -1 else if y < x then 1 else 0:=by
 unfold Hd Pv
 simp
theorem orc3 (a b c : Int) : Oq [a,b,c] = if a ≠ 0 then a else if b ≠ 0 then b else c:=by
 unfold Oq
 simp only [Lk,Lt]
 by_cases h1 : a = 0 <;> by_cases h2 : b = 0 <;> by_cases h3 : c = 0 <;> simp [h1,h2,h3]
theorem orc2 (a b : Int) : Oq [a,b] = if a ≠ 0 then a else b:=by
 unfold Oq
 simp only [Lk,Lt]
 by_cases h1 : a = 0 <;> by_cases h2 : b = 0 <;> simp [h1,h2]
def cC (a b : Ex) : Int:=if cB a.Who b.Who ≠ 0 then cB a.Who b.Who else if cB a.Item b.Item ≠ 0 then cB a.Item b.Item else if a.Heat < b.Heat then -1 else if b.Heat < a.Heat then 1 else 0
theorem Vx (a b : Ex) : Lm a b = cC a b:=by
 unfold Lm cC
 have h1 : Jp a.Who b.Who = cB a.Who b.Who:=rfl
 have h2 : Jp a.Item b.Item = cB a.Item b.Item:=rfl
 rw [orc3,cmpI2,h1,h2]
theorem cmp2_is (a b c d : ByteArray) : Kc [a,b] [c,d] = some (if cB a c ≠ 0 then cB a c else cB b d):=by
 unfold Kc
 simp only [Lk,Hf]
 have n0 : nth [c,d] ((0 : Nat) : Int) = c:=rfl
 have n1 : nth [c,d] ((0 + 1 : Nat) : Int) = d:=rfl
 rw [n0,n1,ET,ET]
 by_cases h1 : cB a c = 0
 ·by_cases h2 : cB b d = 0
  ·simp [h1,h2,Chk,inB]
  ·simp [h1,h2,Chk,inB]
 ·simp [h1,Chk,inB]
theorem EU (a b : Ex) (ha : 1 ≤ a.Heat ∧ a.Heat ≤ 60) (hb : 1 ≤ b.Heat ∧ b.Heat ≤ 60) : Nx a b = some (cC a b):=by
 unfold Nx Sp cC
 rw [cmp2_is,Km (n:=a.Heat - b.Heat) (by omega) (by omega)]
 simp only [Option.bind_some]
 by_cases h1 : cB a.Who b.Who = 0
 ·by_cases h2 : cB a.Item b.Item = 0
  ·by_cases h3 : a.Heat < b.Heat
   ·simp [h1,h2,h3,show a.Heat - b.Heat < 0 by omega]
   ·by_cases h4 : b.Heat < a.Heat
    ·simp [h1,h2,h3,h4,show ¬ a.Heat - b.Heat < 0 by omega,show 0 < a.Heat - b.Heat by omega]
    ·simp [h1,h2,h3,h4,show ¬ a.Heat - b.Heat < 0 by omega,show ¬ 0 < a.Heat - b.Heat by omega]
  ·simp [h1,h2]
 ·simp [h1]
structure CV (items : List An) (c : Ex) (k : Nat) (y : An) : Prop where
 ix : ixN items c.Item = some k
 get : items[k]? = some y
 h1 : 1 ≤ c.Heat
 h2 : c.Heat ≤ y.Heats
def BM (l : List Ex) : Prop:=∀ dn p q ys,l = dn ++ p :: q :: ys → cC p q < 0
theorem KA {l : List Ex} {y : Ex} (h : BM l) (hy : ∀ d p,l = d ++ [p] → cC p y < 0) : BM (l ++ [y]):=by
 intro d p q r e
 rcases List.eq_nil_or_concat r with rfl | ⟨r',z,rfl⟩
 ·have h' : l ++ [y] = (d ++ [p]) ++ [q]:=by rw [e]; simp
  have h4:=List.append_inj' h' rfl
  have hq : y = q:=by simpa using h4.2
  subst hq
  exact hy d p h4.1
 ·have h' : l ++ [y] = (d ++ p :: q :: r') ++ [z]:=by rw [e]; simp
  exact h d p q r' (List.append_inj' h' rfl).1
theorem BN (items : List An) (hg : ∀ x ∈ items,Mg x) (hi : items.length ≤ 100) (l : List Ex) (hl : l.length ≤ 2000) : ∀ (ys dn : List Ex),l = dn ++ ys → (∀ c ∈ dn,∃ k y,CV items c k y) → BM dn →
  ∃ e,Ho items l (some 0) ys dn.length = some e ∧ Hy items l (some 0) ys dn.length = some e ∧ (e = 0 → (∀ c ∈ l,∃ k y,CV items c k y) ∧ BM l)
 | [],dn,h,h1,h2=>⟨0,rfl,rfl,fun _=>by rw [List.append_nil] at h; subst h; exact ⟨h1,h2⟩⟩
 | p :: ys,dn,h,h1,h2=>by
  obtain ⟨b,e1,e2⟩:=BD p.Who
  have hlen : l.length = dn.length + (ys.length + 1):=by rw [h]; simp
  rw [Ho,Hy,e1,e2,Xa,IJ]
  simp only [Option.bind_some]
  cases b with
  | false=>exact ⟨5,rfl,rfl,fun h=>by cases h⟩
  | true =>
   unfold ixI
   cases hix : ixN items p.Item with
   | none=>exact ⟨8,by simp,by simp,fun h=>by cases h⟩
   | some k =>
    have hk:=BH hix
    obtain ⟨y,hy⟩ : ∃ y,items[k]? = some y:=⟨items[k],List.getElem?_eq_getElem hk⟩
    have hn : nth items (k : Int) = y:=Oc hy
    have hgy:=hg y (List.mem_of_getElem? hy)
    have hck : inB (k : Int) items.length = true:=Hu.2 ⟨by omega,by omega⟩
    simp only [Bool.not_true,Bool.false_eq_true,if_false,show ¬ ((k : Int) < 0) by omega,decide_false,Lk,hn,Lb hck,DC]
    by_cases hh : Gr p.Heat 1 y.Heats = true
    ·simp only [hh,Bool.not_true,Bool.false_eq_true,if_false]
     have hCV : CV items p k y:=by
      unfold Gr at hh
      simp at hh
      exact ⟨hix,hy,hh.1,hh.2⟩
     have rest : (∀ d q,dn = d ++ [q] → cC q p < 0) → ∃ e,Ho items l (some 0) ys (dn.length + 1) = some e ∧ Hy items l (some 0) ys (dn.length + 1) = some e ∧ (e = 0 → (∀ c ∈ l,∃ k y,CV items c k y) ∧ BM l):=by
      intro hadj
      have:=BN items hg hi l hl ys (dn ++ [p]) (by rw [h]; simp) (fun c hc=>by
       rcases List.mem_append.1 hc with h' | h'
       ·exact h1 c h'
       ·rw [List.mem_singleton] at h'; subst h'; exact ⟨k,y,hCV⟩) (KA h2 hadj)
      rwa [List.length_append,List.length_singleton] at this
     rcases List.eq_nil_or_concat dn with hd | ⟨d,q,hd⟩
     ·subst hd
      simp only [List.length_nil,Int.natCast_zero,Int.lt_irrefl,decide_false,Bool.false_eq_true,if_false] at rest ⊢
      exact rest fun d q h'=>by simp at h'
     ·rw [List.concat_eq_append] at hd
      have hdl : dn.length = d.length + 1:=by rw [hd]; simp
      have hnq : nth l (W ((dn.length : Int) - 1)) = q:=by
       rw [Km (by omega) (by omega),h,hd]
       have : d ++ [q] ++ p :: ys = d ++ q :: (p :: ys):=by simp
       rw [this]
       exact Xb _ _ _ (by simp)
      obtain ⟨kq,yq,hq⟩:=h1 q (by rw [hd]; simp)
      have hgq:=hg yq (List.mem_of_getElem? hq.get)
      unfold Mg at hgy hgq
      have a1:=hq.h1; have a2:=hq.h2; have b1:=hCV.h1; have b2:=hCV.h2
      have hpos : decide (0 < (dn.length : Int)) = true:=decide_eq_true (by omega)
      simp only [hpos,if_true]
      rw [Lb (Hu.2 (by rw [Km (by omega) (by omega)]; omega)),Lb (Hu.2 (by rw [Km (by omega) (by omega)]; omega)),hnq,Vx,EU q p (by omega) (by omega)]
      simp only [Option.bind_some]
      by_cases hc : 0 ≤ cC q p
      ·simp only [hc,decide_true,if_true]
       exact ⟨7,rfl,rfl,fun h=>by cases h⟩
      ·simp only [hc,decide_false,Bool.false_eq_true,if_false]
       refine rest fun d' q' h'=>?_
       rw [hd] at h'
       have h4:=List.append_inj' h' rfl
       have : q = q':=by simpa using h4.2
       subst this
       omega
    ·simp only [hh,Bool.not_false,if_true]
     exact ⟨1,rfl,rfl,fun h=>by cases h⟩
theorem BO (l : List An) : ∀ (ys dn : List An) (m : List (ByteArray × Bool)),l = dn ++ ys → (∀ k,Xn m k false = dn.any fun x=>decide (x.Key = k)) → Hw (fun _=>some 0) ys dn.length m = some 0 → dn.Pairwise (fun a b=>a.Key ≠ b.Key) → l.Pairwise fun a b=>a.Key ≠ b.Key
 | [],dn,m,hl,_,_,hp=>by rw [List.append_nil] at hl; rw [hl]; exact hp
 | y :: ys,dn,m,hl,hm,h,hp=>by
  obtain ⟨b,e1,_⟩:=BD y.Key
  rw [Hw,e1] at h
  simp only [Option.bind_some] at h
  cases b with
  | false=>simp at h
  | true =>
   simp only [Bool.not_true,Bool.false_eq_true,if_false] at h
   cases hk : Xn m y.Key false with
   | true=>rw [hk] at h; simp at h
   | false =>
    rw [hk] at h
    simp only [Bool.false_eq_true,if_false] at h
    split at h
    ·cases h
    ·have hk2:=hk
     rw [hm,List.any_eq_false] at hk2
     refine BO l ys (dn ++ [y]) (Si m y.Key true) (by rw [hl]; simp) (fun k=>?_) ?_ (List.pairwise_append.2 ⟨hp,by simp,fun x hx z hz=>?_⟩)
     ·rw [DB,List.any_append,← hm]
      by_cases hk3 : k = y.Key
      ·simp [hk3]
      ·have : ¬ y.Key = k:=fun e=>hk3 e.symm
       simp [hk3,this]
     ·rw [List.length_append,List.length_singleton]; exact h
     ·rw [List.mem_singleton] at hz
      subst hz
      simpa using hk2 x hx
theorem LK {l : List An} (h : Jq l = some 0) : l.Pairwise fun a b=>a.Key ≠ b.Key:=by
 unfold Jq at h
 split at h
 ·cases h
 ·exact BO l l [] [] rfl (fun _=>rfl) h List.Pairwise.nil
theorem LL (items : List An) (l : List Ex) : ∃ e,La items l = some e ∧ Nh items l = some e ∧
  (e = 0 → items.length ≤ 100 ∧ (∀ x ∈ items,Mg x) ∧ (items.Pairwise fun a b=>a.Key ≠ b.Key) ∧ l.length ≤ 2000 ∧ (∀ c ∈ l,∃ k y,CV items c k y) ∧ BM l):=by
 unfold La Nh
 obtain ⟨e,h1,h2,h3⟩:=FU items
 by_cases he : e = 0
 ·subst he
  obtain ⟨hi,hg⟩:=h3 rfl
  have hd:=LK h1
  rw [h1,h2]
  simp only [Option.bind_some,decide_true,Bool.not_true,Bool.false_eq_true,if_false]
  by_cases hl : 2000 < (l.length : Int)
  ·rw [if_pos (decide_eq_true hl),if_pos (decide_eq_true hl)]; exact ⟨2,rfl,rfl,fun h=>by cases h⟩
  ·rw [if_neg (by simpa using hl),if_neg (by simpa using hl),Lk,Lk]
   obtain ⟨e,g1,g2,g3⟩:=BN items hg hi l (by omega) l [] rfl (fun _ h=>by cases h) (fun d p q r h=>by simp at h)
   exact ⟨e,g1,g2,fun h=>⟨hi,hg,hd,by omega,g3 h⟩⟩
 ·rw [h1,h2]
  simp only [Option.bind_some,he,decide_false,Bool.not_false,if_true]
  exact ⟨e,rfl,rfl,fun h=>absurd h he⟩
end Go.Proofs.YtlndicofaomdaaaGreatDoor
namespace Go.Proofs.YtlndicofaomdaaaGreatDoor
open Go
abbrev Rows:=List (List Ew)
def Oo (items : List An) (need : Int) (p : Option ByteArray) (c : Ex) (s : Int × Rows) : Int × Rows :=
 let x3:=if p = some c.Who then s.2 else s.2 ++ [List.replicate items.length (Ew.mk 0 0)]
 let k:=Ez items c.Item
 let row:=nth x3 ((x3.length : Int) - 1)
 (if (nth row k).last_ = 0 then s.1 else if (W ((W ((W ((W (c.Heat - (nth row k).last_)) - 1)) * (nth items k).Long)) + (W ((W (c.Heat - (nth row k).last_)) * (nth items k).Gap)))) < need then W (s.1 + 1) else s.1,
  x3.set (x3.length - 1) (row.set k.toNat (Ew.mk (if (nth row k).last_ = 0 then c.Heat else (nth row k).first_) c.Heat)))
def Ps (items : List An) (need : Int) : Option ByteArray → List Ex → Int × Rows → Int × Rows
 | _,[],s=>s
 | p,c :: cs,s=>Ps items need (some c.Who) cs (Oo items need p c s)
def CF (n : Nat) (s : Rows) : Prop:=∀ row ∈ s,row.length = n
theorem EV {α : Type} [Inhabited α] {l : List α} {i : Int} (h0 : 0 ≤ i) (h : i < l.length) : nth l i ∈ l:=by
 have h1:=(Ff (l:=l) (e:=i) (Hu.2 ⟨h0,h⟩)).1
 exact List.mem_of_getElem? h1
theorem HB {items : List An} {need : Int} {p : Option ByteArray} {c : Ex} {s : Int × Rows} (hs : CF items.length s.2) (hp : p ≠ none → s.2 ≠ []) : CF items.length (Oo items need p c s).2 ∧ (Oo items need p c s).2 ≠ [] ∧ (Oo items need p c s).2.length ≤ s.2.length + 1 ∧
  CF items.length (if p = some c.Who then s.2 else s.2 ++ [List.replicate items.length (Ew.mk 0 0)]) ∧ 0 < (if p = some c.Who then s.2 else s.2 ++ [List.replicate items.length (Ew.mk 0 0)]).length ∧ (if p = some c.Who then s.2 else s.2 ++ [List.replicate items.length (Ew.mk 0 0)]).length ≤ s.2.length + 1:=by
 have hA : CF items.length (if p = some c.Who then s.2 else s.2 ++ [List.replicate items.length (Ew.mk 0 0)]):=by
  split
  ·exact hs
  ·intro row hr
   rcases List.mem_append.1 hr with hr | hr
   ·exact hs row hr
   ·rw [List.mem_singleton] at hr; subst hr; simp
 have hL : 0 < (if p = some c.Who then s.2 else s.2 ++ [List.replicate items.length (Ew.mk 0 0)]).length:=by
  split
  ·rename_i h
   exact List.length_pos_iff.2 (hp (by rw [h]; simp))
  ·simp
 have hM : (if p = some c.Who then s.2 else s.2 ++ [List.replicate items.length (Ew.mk 0 0)]).length ≤ s.2.length + 1:=by
  split <;> simp
 unfold Oo
 simp only
 generalize (if p = some c.Who then s.2 else s.2 ++ [List.replicate items.length (Ew.mk 0 0)]) = x3 at *
 refine ⟨fun row hr=>?_,?_,by rw [List.length_set]; exact hM,hA,hL,hM⟩
 ·rcases List.mem_or_eq_of_mem_set hr with hr | rfl
  ·exact hA row hr
  ·rw [List.length_set]
   exact hA _ (EV (by omega) (by omega))
 ·intro e
  have:=congrArg List.length e
  simp only [List.length_set,List.length_nil] at this
  omega
theorem new_l {items : List An} {l : List Ex} {need : Int} (hi : items.length ≤ 1000) (hl : l.length ≤ 2000) (hk : ∀ c ∈ l,0 ≤ Ez items c.Item ∧ Ez items c.Item < (items.length : Int)) (j : Int → Rows → Option (Int × Rows)) :
  ∀ (ys dn : List Ex) (p : Option ByteArray) (s : Int × Rows),l = dn ++ ys → ((dn = [] ∧ p = none) ∨ ∃ d q,dn = d ++ [q] ∧ p = some q.Who) → CF items.length s.2 → (p ≠ none → s.2 ≠ []) → s.2.length ≤ dn.length →
   Gz items l need j ys dn.length s.1 s.2 = j (Ps items need p ys s).1 (Ps items need p ys s).2 ∧ CF items.length (Ps items need p ys s).2 ∧ (Ps items need p ys s).2.length ≤ dn.length + ys.length
 | [],dn,p,s,_,_,hs,_,hn=>⟨rfl,hs,by simpa [Ps] using hn⟩
 | y :: ys,dn,p,s,e,hp,hs,hq,hn=>by
  have hlen : l.length = dn.length + (ys.length + 1):=by rw [e]; simp
  obtain ⟨k0,k1⟩:=hk y (by rw [e]; simp)
  obtain ⟨g1,g2,g3,g4,g5,g6⟩:=HB (need:=need) (c:=y) hs hq
  obtain ⟨r1,r2,r3⟩:=new_l hi hl hk j ys (dn ++ [y]) (some y.Who) (Oo items need p y s) (by rw [e]; simp) (.inr ⟨dn,y,rfl,rfl⟩) g1 (fun _=>g2) (by rw [List.length_append,List.length_singleton]; omega)
  rw [List.length_append,List.length_singleton] at r1 r3
  refine ⟨?_,r2,by rw [Ps]; simp only [List.length_cons]; omega⟩
  rw [Gz,Ps,← r1]
  simp only [Lk]
  have last : ∀ x3 : Rows,CF items.length x3 → 0 < x3.length → x3.length ≤ 3000 → x3 = (if p = some y.Who then s.2 else s.2 ++ [List.replicate items.length (Ew.mk 0 0)]) →
    (Chk (inB (W ((x3.length : Int) - 1)) x3.length) (Chk (inB (Ez items y.Item) (nth x3 (W ((x3.length : Int) - 1))).length) (
     if decide ((nth (nth x3 (W ((x3.length : Int) - 1))) (Ez items y.Item)).last_ = 0) then
      Gz items l need j ys (dn.length + 1) s.1 (x3.set (W ((x3.length : Int) - 1)).toNat ((nth x3 (W ((x3.length : Int) - 1))).set (Ez items y.Item).toNat (Ew.mk (if decide ((nth (nth x3 (W ((x3.length : Int) - 1))) (Ez items y.Item)).last_ = 0) then y.Heat else (nth (nth x3 (W ((x3.length : Int) - 1))) (Ez items y.Item)).first_) y.Heat)))
     else Chk (inB (Ez items y.Item) items.length) (
      if decide ((W ((W ((W ((W (y.Heat - (nth (nth x3 (W ((x3.length : Int) - 1))) (Ez items y.Item)).last_)) - 1)) * (nth items (Ez items y.Item)).Long)) + (W ((W (y.Heat - (nth (nth x3 (W ((x3.length : Int) - 1))) (Ez items y.Item)).last_)) * (nth items (Ez items y.Item)).Gap)))) < need) then
       Gz items l need j ys (dn.length + 1) (W (s.1 + 1)) (x3.set (W ((x3.length : Int) - 1)).toNat ((nth x3 (W ((x3.length : Int) - 1))).set (Ez items y.Item).toNat (Ew.mk (if decide ((nth (nth x3 (W ((x3.length : Int) - 1))) (Ez items y.Item)).last_ = 0) then y.Heat else (nth (nth x3 (W ((x3.length : Int) - 1))) (Ez items y.Item)).first_) y.Heat)))
      else Gz items l need j ys (dn.length + 1) s.1 (x3.set (W ((x3.length : Int) - 1)).toNat ((nth x3 (W ((x3.length : Int) - 1))).set (Ez items y.Item).toNat (Ew.mk (if decide ((nth (nth x3 (W ((x3.length : Int) - 1))) (Ez items y.Item)).last_ = 0) then y.Heat else (nth (nth x3 (W ((x3.length : Int) - 1))) (Ez items y.Item)).first_) y.Heat)))))))
    = Gz items l need j ys (dn.length + 1) (Oo items need p y s).1 (Oo items need p y s).2:=by
   intro x3 hx hx0 hx1 hx2
   have hw : W ((x3.length : Int) - 1) = (x3.length : Int) - 1:=Km (by omega) (by omega)
   have ht : ((x3.length : Int) - 1).toNat = x3.length - 1:=by omega
   unfold Oo
   simp only
   rw [← hx2,hw,Lb (Hu.2 (by omega)),Lb (Hu.2 (by rw [hx _ (EV (by omega) (by omega))]; omega)),ht]
   by_cases c1 : (nth (nth x3 ((x3.length : Int) - 1)) (Ez items y.Item)).last_ = 0
   ·simp only [c1,decide_true,if_true]
   ·simp only [c1,decide_false,Bool.false_eq_true,if_false]
    rw [Lb (Hu.2 (by omega))]
    by_cases c2 : (W ((W ((W ((W (y.Heat - (nth (nth x3 ((x3.length : Int) - 1)) (Ez items y.Item)).last_)) - 1)) * (nth items (Ez items y.Item)).Long)) + (W ((W (y.Heat - (nth (nth x3 ((x3.length : Int) - 1)) (Ez items y.Item)).last_)) * (nth items (Ez items y.Item)).Gap)))) < need
    ·rw [if_pos (decide_eq_true c2),if_pos c2]
    ·rw [if_neg (by simpa using c2),if_neg c2]
  have yes : p ≠ some y.Who → (Chk (decide (0 ≤ (items.length : Int)) && decide ((items.length : Int) < 1073741824)) (Chk (Pa s.2.length) (
    (fun (x3 : Rows)=>Chk (inB (W ((x3.length : Int) - 1)) x3.length) (Chk (inB (Ez items y.Item) (nth x3 (W ((x3.length : Int) - 1))).length) (
     if decide ((nth (nth x3 (W ((x3.length : Int) - 1))) (Ez items y.Item)).last_ = 0) then
      Gz items l need j ys (dn.length + 1) s.1 (x3.set (W ((x3.length : Int) - 1)).toNat ((nth x3 (W ((x3.length : Int) - 1))).set (Ez items y.Item).toNat (Ew.mk (if decide ((nth (nth x3 (W ((x3.length : Int) - 1))) (Ez items y.Item)).last_ = 0) then y.Heat else (nth (nth x3 (W ((x3.length : Int) - 1))) (Ez items y.Item)).first_) y.Heat)))
     else Chk (inB (Ez items y.Item) items.length) (
      if decide ((W ((W ((W ((W (y.Heat - (nth (nth x3 (W ((x3.length : Int) - 1))) (Ez items y.Item)).last_)) - 1)) * (nth items (Ez items y.Item)).Long)) + (W ((W (y.Heat - (nth (nth x3 (W ((x3.length : Int) - 1))) (Ez items y.Item)).last_)) * (nth items (Ez items y.Item)).Gap)))) < need) then
       Gz items l need j ys (dn.length + 1) (W (s.1 + 1)) (x3.set (W ((x3.length : Int) - 1)).toNat ((nth x3 (W ((x3.length : Int) - 1))).set (Ez items y.Item).toNat (Ew.mk (if decide ((nth (nth x3 (W ((x3.length : Int) - 1))) (Ez items y.Item)).last_ = 0) then y.Heat else (nth (nth x3 (W ((x3.length : Int) - 1))) (Ez items y.Item)).first_) y.Heat)))
      else Gz items l need j ys (dn.length + 1) s.1 (x3.set (W ((x3.length : Int) - 1)).toNat ((nth x3 (W ((x3.length : Int) - 1))).set (Ez items y.Item).toNat (Ew.mk (if decide ((nth (nth x3 (W ((x3.length : Int) - 1))) (Ez items y.Item)).last_ = 0) then y.Heat else (nth (nth x3 (W ((x3.length : Int) - 1))) (Ez items y.Item)).first_) y.Heat)))))))
     (s.2 ++ [List.replicate ((items.length : Int).toNat) (Ew.mk 0 0)]))))
    = Gz items l need j ys (dn.length + 1) (Oo items need p y s).1 (Oo items need p y s).2:=fun hne=>by
   rw [Lb (by simp; omega),Lb (by unfold Pa; simp; omega)]
   rw [if_neg hne] at g4 g5 g6
   rw [Int.toNat_natCast]
   exact last _ g4 g5 (by omega) (by rw [if_neg hne])
  rcases hp with ⟨rfl,rfl⟩ | ⟨d,q,rfl,rfl⟩
  ·rw [if_pos (by simp),if_pos (by simp)]
   exact yes (by simp)
  ·have hdl : (d ++ [q]).length = d.length + 1:=by simp
   have hw : W (((d ++ [q]).length : Int) - 1) = (d.length : Int):=by rw [Km (by omega) (by omega),hdl]; omega
   have hnq : nth l (d.length : Int) = q:=Oc (by rw [e]; simp)
   rw [if_neg (by simp only [decide_eq_true_eq]; omega),hw,Lb (Hu.2 (by omega)),hnq]
   have hd0 : decide (((d ++ [q]).length : Int) = 0) = false:=decide_eq_false (by omega)
   rw [hd0,Bool.false_or]
   by_cases hw2 : q.Who = y.Who
   ·rw [if_neg (by simp [hw2])]
    rw [if_pos (by rw [hw2])] at g4 g5 g6
    exact last _ g4 g5 (by omega) (by rw [if_pos (by rw [hw2])])
   ·rw [if_pos (by simp [hw2])]
    exact yes (by simp [hw2])
theorem EW {items : List An} {l : List Ex} {need : Int} (hi : items.length ≤ 1000) (hl : l.length ≤ 2000) (hk : ∀ c ∈ l,0 ≤ Ez items c.Item ∧ Ez items c.Item < (items.length : Int)) :
  Ok items l need = some (Ps items need none l (0,[])) ∧ CF items.length (Ps items need none l (0,[])).2 ∧ (Ps items need none l (0,[])).2.length ≤ l.length:=by
 obtain ⟨h1,h2,h3⟩:=new_l hi hl hk (fun x1 x2=>some (x1,x2)) l [] none (0,[]) rfl (.inl ⟨rfl,rfl⟩) (fun _ h=>by cases h) (fun h=>absurd rfl h) (Nat.le_refl _)
 refine ⟨?_,h2,by simpa using h3⟩
 unfold Ok
 rw [Lk]
 exact h1
section leaf
variable (items : List An) (need : Int)
def AK : List Int → List Int → Int → Int → List Int × Int
 | [],fr,_,en=>(fr,en)
 | k :: ks,fr,at_,_=>AK ks (fr.set k.toNat at_) (W ((W ((W (at_ + (Hc (nth items k) ((nth items k).Heats)))) + ((nth items k).Long))) + ((nth items k).Break))) (W ((W (at_ + (Hc (nth items k) ((nth items k).Heats)))) + ((nth items k).Long)))
theorem FY : ∀ (ks fr : List Int) (a e : Int),(AK items ks fr a e).1.length = fr.length
 | [],_,_,_=>rfl
 | k :: ks,fr,a,e=>by rw [AK,FY ks]; simp
def InR (n : Nat) (l : List Int) : Prop:=∀ k ∈ l,0 ≤ k ∧ k < (n : Int)
theorem LM (j : List Int → Int → Option ((List Int) × Int × Int × Bool)) : ∀ (ks : List Int) (i : Nat) (fr : List Int) (a e : Int),InR items.length ks → fr.length = items.length → Lv items j ks i fr a e = j (AK items ks fr a e).1 (AK items ks fr a e).2
 | [],_,_,_,_,_,_=>rfl
 | k :: ks,i,fr,a,e,hk,hf=>by
  obtain ⟨h0,h1⟩:=hk k (by simp)
  rw [Lv,Lb (Hu.2 ⟨h0,h1⟩),Lb (Hu.2 ⟨h0,by omega⟩),LM j ks (i + 1) _ _ _ (fun z hz=>hk z (by simp [hz])) (by simpa using hf)]
  rfl
def Uo (row : List Ew) (fr : List Int) : List Int → Int → Int → Int
 | [],s,_=>s
 | k :: ks,s,la=>if (nth row k).last_ = 0 then Uo row fr ks s la else
  Uo row fr ks (if 0 ≤ la ∧ W ((W ((nth fr k) + (Hc (nth items k) ((nth row k).first_)))) - la) < need then W (s + 1) else s) (W ((W ((nth fr k) + (Hc (nth items k) ((nth row k).last_)))) + ((nth items k).Long)))
theorem LN (row : List Ew) (fr : List Int) (hr : row.length = items.length) (hf : fr.length = items.length) (j : Int → Option ((List Int) × Int × Int × Bool)) : ∀ (ks : List Int) (i : Nat) (s la : Int),InR items.length ks → Lw row fr items need j ks i s la = j (Uo items need row fr ks s la)
 | [],_,_,_,_=>rfl
 | k :: ks,i,s,la,hk=>by
  obtain ⟨h0,h1⟩:=hk k (by simp)
  have ih:=fun s la=>LN row fr hr hf j ks (i + 1) s la (fun z hz=>hk z (by simp [hz]))
  have c1 : inB k row.length = true:=Hu.2 ⟨h0,by omega⟩
  have c2 : inB k fr.length = true:=Hu.2 ⟨h0,by omega⟩
  have c3 : inB k items.length = true:=Hu.2 ⟨h0,h1⟩
  rw [Lw,Uo]
  simp only [Lk,Lb c1,Lb c2,Lb c3,ih]
  by_cases hl : (nth row k).last_ = 0
  ·rw [if_pos (decide_eq_true hl),if_pos hl]
  ·rw [if_neg (by simpa using hl),if_neg hl]
   by_cases hc : 0 ≤ la ∧ W ((W ((nth fr k) + (Hc (nth items k) ((nth row k).first_)))) - la) < need
   ·rw [if_pos (by simpa using hc),if_pos hc]
   ·rw [if_neg (by simpa using hc),if_neg hc]
def DG (fr now : List Int) : Rows → Int → Int
 | [],s=>s
 | row :: rows,s=>DG fr now rows (Uo items need row fr now s (-1))
theorem LO (fr now : List Int) (hf : fr.length = items.length) (hn : InR items.length now) (j : Int → Option ((List Int) × Int × Int × Bool)) : ∀ (rows : Rows) (i : Nat) (s : Int),CF items.length rows → Lx fr items need now j rows i s = j (DG items need fr now rows s)
 | [],_,_,_=>rfl
 | row :: rows,i,s,h=>by
  rw [Lx,Lk,LN items need row fr (h row (by simp)) hf _ now 0 s (-1) hn,LO fr now hf hn j rows (i + 1) _ (fun z hz=>h z (by simp [hz]))]
  rfl
def Tq (within : Int) (rows : Rows) (now : List Int) : Int × Int :=
 let fe:=AK items now (List.replicate items.length 0) 0 0
 (DG items need fe.1 now rows within,fe.2)
end leaf
abbrev Acc:=(List Int) × Int × Int × Bool
def Yc (a : Acc) (now : List Int) (v : Int × Int) : Acc:=if a.2.2.2 = false ∨ v.1 < a.2.1 ∨ (v.1 = a.2.1 ∧ v.2 < a.2.2.1) then (now,v.1,v.2,true) else a
def CG (f : List Int → List Int → Acc → Acc) (now rest : List Int) : List Int → Nat → Acc → Acc
 | [],_,a=>a
 | y :: ys,i,a=>CG f now rest ys (i + 1) (f (now ++ [y]) (rest.eraseIdx i) a)
def Yd (leaf : List Int → Int × Int) : Nat → List Int → List Int → Acc → Acc
 | 0,_,_,a=>a
 | m + 1,now,rest,a=>if rest = [] then Yc a now (leaf now) else CG (Yd leaf m) now rest rest 0 a
theorem HC {a b : List Int} (h : a.length + b.length ≤ 1000000) : Ol [a,b] = some (a ++ b):=by
 unfold Ol
 rw [Lk,Iz,Km (by omega) (by omega),if_neg (by simp only [decide_eq_true_eq]; omega),Iz,Km (by omega) (by omega),if_neg (by simp only [decide_eq_true_eq]; omega),Iz]
 unfold Re
 rw [Lb (by simp; omega),Option.bind_some,Lk,Ja,Lb (by simp; omega),Ja,Lb (by simp; omega),Ja]
 simp
theorem KB (l : List Int) (i : Nat) (h : i < l.length) : cut l 0 (i : Int) ++ cut l ((i : Int) + 1) (l.length : Int) = l.eraseIdx i:=by
 unfold cut
 rw [show (0 : Int).toNat = 0 from rfl,List.drop_zero,Int.toNat_natCast,Int.toNat_natCast,List.take_length,show ((i : Int) + 1).toNat = i + 1 by omega,List.eraseIdx_eq_take_drop_succ]
theorem FZ {n : Nat} {l : List Int} (h : InR n l) (i : Nat) : InR n (l.eraseIdx i):=fun k hk=>h k (List.mem_of_mem_eraseIdx hk)
theorem KC (a : Acc) (now : List Int) (s e : Int) : ((if !a.2.2.2 then (if true then some (now,s,e,true) else some (a.1,a.2.1,a.2.2.1,a.2.2.2)) else (if decide ((Oq [(Hd s a.2.1),(Hd e a.2.2.1)]) < 0) then some (now,s,e,true) else some (a.1,a.2.1,a.2.2.1,a.2.2.2))) : Option Acc) = some (Yc a now (s,e)):=by
 unfold Yc
 obtain ⟨b,sh,en,f⟩:=a
 cases f with
 | false=>simp
 | true =>
  simp only [Bool.not_true,Bool.false_eq_true,if_false,orc2,cmpI2]
  by_cases h1 : s < sh
  ·simp [h1]
  ·by_cases h2 : sh < s
   ·have : ¬ s = sh:=by omega
    simp [h1,h2,this]
   ·have h3 : s = sh:=by omega
    by_cases h4 : e < en
    ·simp [h3,h4]
    ·by_cases h5 : en < e
     ·simp [h4,h5,h3]
     ·simp [h4,h5,h3]
theorem LP {items : List An} {within need : Int} {rows : Rows} (hi : items.length ≤ 1000) (hr : CF items.length rows) : ∀ (m : Nat) (now rest : List Int) (a : Acc),rest.length < m → InR items.length now → InR items.length rest → now.length + rest.length ≤ 1000 →
  Nv m items within rows need a.1 a.2.1 a.2.2.1 a.2.2.2 now rest = some (Yd (Tq items need within rows) m now rest a)
 | 0,_,_,_,h,_,_,_=>absurd h (by omega)
 | m + 1,now,rest,a,hm,hn,hre,hlen=>by
  rw [Nv]
  unfold Te
  rw [Yd]
  by_cases h0 : rest = []
  ·subst h0
   rw [if_neg (by simp),if_pos rfl,Lb (by simp; omega)]
   simp only [Lk,Int.toNat_natCast]
   rw [LM items _ now 0 _ 0 0 hn (by simp),LO items need _ now (by rw [FY]; simp) hn _ rows 0 within hr]
   exact KC a now _ _
  ·rw [if_neg h0,if_pos (by have:=List.length_pos_iff.2 h0; simp only [decide_eq_true_eq]; omega)]
   simp only [Lk]
   have loop : ∀ (ys dn : List Int) (b : Acc),rest = dn ++ ys → Lu now rest (Nv m) items within rows need (fun x1 x2 x3 x4=>some (x4,x1,x2,x3)) ys dn.length b.2.1 b.2.2.1 b.2.2.2 b.1 = some (CG (Yd (Tq items need within rows) m) now rest ys dn.length b):=by
    intro ys
    induction ys with
    | nil=>intro dn b _; rfl
    | cons y ys ih =>
     intro dn b e
     have hl : rest.length = dn.length + (ys.length + 1):=by rw [e]; simp
     have hel:=List.length_eraseIdx_of_lt (l:=rest) (i:=dn.length) (by omega)
     rw [Lu]
     simp only [Lk]
     unfold Qm
     rw [Lb (by simp; omega),Option.bind_some,List.nil_append,Lb (by unfold Pa; simp; omega),Lb (Nt.2 (by omega)),Km (by omega) (by omega),Lb (Nt.2 (by omega)),HC (by simp [cut]; omega),Option.bind_some,KB rest dn.length (by omega)]
     rw [LP hi hr m (now ++ [y]) (rest.eraseIdx dn.length) b (by omega) (fun k hk=>by
      rcases List.mem_append.1 hk with hk | hk
      ·exact hn k hk
      ·rw [List.mem_singleton] at hk; subst hk; exact hre k (by rw [e]; simp)) (FZ hre _) (by rw [List.length_append,List.length_singleton]; omega),Option.bind_some]
     have:=ih (dn ++ [y]) (Yd (Tq items need within rows) m (now ++ [y]) (rest.eraseIdx dn.length) b) (by rw [e]; simp)
     rw [List.length_append,List.length_singleton] at this
     rw [CG]
     exact this
   exact loop rest [] a rfl
theorem IR {n : Nat} (leaf : List Int → Int × Int) : ∀ (m : Nat) (now rest : List Int) (a : Acc),InR n now → InR n rest → InR n a.1 → InR n (Yd leaf m now rest a).1
 | 0,_,_,_,_,_,h=>h
 | m + 1,now,rest,a,hn,hr,ha=>by
  rw [Yd]
  split
  ·unfold Yc
   split
   ·exact hn
   ·exact ha
  ·have loop : ∀ (ys dn : List Int) (b : Acc),rest = dn ++ ys → InR n b.1 → InR n (CG (Yd leaf m) now rest ys dn.length b).1:=by
    intro ys
    induction ys with
    | nil=>intro dn b _ hb; exact hb
    | cons y ys ih =>
     intro dn b e hb
     rw [CG]
     have h1:=IR leaf m (now ++ [y]) (rest.eraseIdx dn.length) b (fun k hk=>by
      rcases List.mem_append.1 hk with hk | hk
      ·exact hn k hk
      ·rw [List.mem_singleton] at hk; subst hk; exact hr k (by rw [e]; simp)) (FZ hr _) hb
     have:=ih (dn ++ [y]) _ (by rw [e]; simp) h1
     rw [List.length_append,List.length_singleton] at this
     exact this
   exact loop rest [] a rfl ha
end Go.Proofs.YtlndicofaomdaaaGreatDoor
