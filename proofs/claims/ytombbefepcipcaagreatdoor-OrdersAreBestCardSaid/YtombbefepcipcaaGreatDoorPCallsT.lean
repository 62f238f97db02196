/- The heats of somebody,in order: the program's are the reference's. No program stands here but its twins. -/
import Derived.Test.YtombbefepcipcaaGreatDoorTw
namespace Go.Proofs.YtombbefepcipcaaGreatDoor
open Go

theorem Ot {R : Type} {c : Bool} {k : Option R} (h : c = true) : Chk c k = k:=by simp [Chk,h]
theorem Uq {κ R : Type} (K : κ) (f : κ → R) : Hq K f = f K:=rfl
theorem Xx {x n : Int} (hn : 0 < n) : -n < Int.tmod x n ∧ Int.tmod x n < n:=by
 have h1:=Int.tmod_lt_of_pos x hn
 have h2:=Int.tmod_lt_of_pos (-x) hn
 rw [Int.neg_tmod] at h2
 omega
theorem Zj (x n : Int) (hn : n ≤ 4611686018427387904) : ∃ v,Lw x n = some v ∧ 0 ≤ v ∧ (v < n ∨ (n < 1 ∧ v = 0)):=by
 unfold Lw
 by_cases h : n < 1
 ·exact ⟨0,by simp [h],Int.le_refl _,.inr ⟨h,rfl⟩⟩
 ·have h1:=Xx (x:=x) (n:=n) (by omega)
  have h0 : ¬ n = 0:=by omega
  simp only [decide_eq_true_eq,h,if_false,Hq]
  rw [Ot (by simp [h0])]
  by_cases h2 : Int.tmod x n < 0
  ·rw [if_pos h2,Ks (by omega) (by omega)]
   exact ⟨_,rfl,by omega,.inl (by omega)⟩
  ·rw [if_neg h2]
   exact ⟨_,rfl,by omega,.inl (by omega)⟩
theorem Yp (L : List Int) (a n : Int) (ha : 0 ≤ a) (ha' : a ≤ 4611686018427387904) (hL : (L.length : Int) ≤ 9223372036854775807) (hn : n ≤ 4611686018427387904) :
  ∃ v,Mc L a n = some (v,a + 1) ∧ 0 ≤ v ∧ (v < n ∨ (n < 1 ∧ v = 0)):=by
 have w1 : W (a + 1) = a + 1:=Ks (by omega) (by omega)
 have w2 : W (a + 1 - 1) = a:=by rw [show a + 1 - 1 = a by omega]; exact Ks (by omega) (by omega)
 unfold Mc
 rw [w1,w2]
 by_cases h : (L.length : Int) = 0
 ·obtain ⟨v,h1,h2,h3⟩:=Zj (W ((a + 1) * 7919)) n hn
  exact ⟨v,by simp [h,h1],h2,h3⟩
 ·have h0 : 0 < (L.length : Int):=by omega
  have hm:=Xx (x:=a) h0
  have hm0 : 0 ≤ Int.tmod a (L.length : Int):=Int.tmod_nonneg _ ha
  have hc : inB (Int.tmod a (L.length : Int)) L.length = true:=Iv.2 ⟨hm0,hm.2⟩
  obtain ⟨v1,e1,_,_⟩:=Zj (nth L (Int.tmod a (L.length : Int))) 1073741824 (by omega)
  simp only [decide_eq_true_eq,h,if_false]
  rw [Ot (by simp),Ot (by simp),Ot hc,e1]
  simp only [Option.bind_some]
  obtain ⟨v2,e2,g1,g2⟩:=Zj (W (v1 + W (W (Int.tdiv a (L.length : Int)) * W (7919 + Int.tmod a (L.length : Int))))) n hn
  exact ⟨v2,by rw [e2]; rfl,g1,g2⟩
theorem pick_ok (L : List Int) (a : Int) (l : List Int) (ha : 0 ≤ a) (ha' : a ≤ 4611686018427387904) (hL : (L.length : Int) ≤ 9223372036854775807) (hl : 0 < l.length) (hl' : l.length ≤ 1000) :
  ∃ v,Md L a l = some (v,a + 1) ∧ v ∈ l:=by
 obtain ⟨v,h1,h2,h3⟩:=Yp L a (l.length : Int) ha ha' hL (by omega)
 have h4 : v < (l.length : Int):=by omega
 have hc : inB v l.length = true:=Iv.2 ⟨h2,h4⟩
 unfold Md
 rw [h1]
 simp only [Option.bind_some]
 rw [Ot hc]
 exact ⟨nth l v,rfl,List.mem_of_getElem? (Ef hc).1⟩
theorem flip_ok (L : List Int) (a n : Int) (ha : 0 ≤ a) (ha' : a ≤ 4611686018427387904) (hL : (L.length : Int) ≤ 9223372036854775807) (hn : n ≤ 4611686018427387904) : ∃ b,Of L a n = some (b,a + 1):=by
 obtain ⟨v,h1,_,_⟩:=Yp L a n ha ha' hL hn
 unfold Of
 rw [h1]
 exact ⟨_,rfl⟩
end Go.Proofs.YtombbefepcipcaaGreatDoor
namespace Go.Proofs.YtombbefepcipcaaGreatDoor
open Go

end Go.Proofs.YtombbefepcipcaaGreatDoor
namespace Go.Proofs.YtombbefepcipcaaGreatDoor
open Go

end Go.Proofs.YtombbefepcipcaaGreatDoor
namespace Go.Proofs.YtombbefepcipcaaGreatDoor
open Go

theorem AZ {κ ν : Type} [DecidableEq κ] (k k' : κ) (v : ν) : ∀ (m : List (κ × ν)) (i : Nat),(Ny (Po m k v) k' i).map (·.2) = if k' = k then some v else (Ny m k' i).map (·.2)
 | [],i=>by
  by_cases h : k' = k <;> simp [Po,Ny,h]
 | (q,u) :: m,i=>by
  by_cases h : k = q
  ·subst h
   by_cases h2 : k' = k <;> simp [Po,Ny,h2]
  ·by_cases h2 : k' = q
   ·subst h2
    have h3 : ¬ k' = k:=fun e=>h e.symm
    simp [Po,Ny,h,h3]
   ·simp [Po,Ny,h,h2,AZ k k' v m (i + 1)]
theorem Xn {κ ν : Type} [DecidableEq κ] (m : List (κ × ν)) (k k' : κ) (v d : ν) : Kw (Po m k v) k' d = if k' = k then v else Kw m k' d:=by
 unfold Kw BS
 rw [AZ]
 split <;> simp
def Kr (x : An) : Prop:=(1 ≤ x.Heats ∧ x.Heats ≤ 60) ∧ (1 ≤ x.Long ∧ x.Long ≤ 3600000) ∧ (0 ≤ x.Gap ∧ x.Gap ≤ 3600000) ∧ (0 ≤ x.Break ∧ x.Break ≤ 3600000)
theorem cut_app {α : Type} (dn ys : List α) : cut (dn ++ ys) 0 (dn.length : Int) = dn:=by simp [cut]
end Go.Proofs.YtombbefepcipcaaGreatDoor
namespace Go.Proofs.YtombbefepcipcaaGreatDoor
open Go

def hs (y : An) : Nat → Int → Int → List Dx
 | 0,_,_=>[]
 | k + 1,h,t=>Dx.mk y.Key h (Gt.mk t (t + y.Long)) :: hs y k (h + 1) (t + y.Long + y.Gap)
def Qf (y : An) : Nat → Int → Int
 | 0,t=>t
 | 1,t=>t + y.Long
 | k + 2,t=>Qf y (k + 1) (t + y.Long + y.Gap)
theorem CU (y : An) : ∀ k h t,(hs y k h t).length = k
 | 0,_,_=>rfl
 | k + 1,h,t=>by simp [hs,CU y k]
theorem Oj (y : An) (hy : Kr y) : ∀ k t,t ≤ Qf y k t ∧ Qf y k t ≤ t + k * 7200000
 | 0,t=>by simp [Qf]
 | 1,t=>by unfold Kr at hy; simp [Qf]; omega
 | k + 2,t=>by
  have:=Oj y hy (k + 1) (t + y.Long + y.Gap)
  unfold Kr at hy
  simp only [Qf]
  push_cast at this ⊢
  omega
def tt : List An → Int → List Dx
 | [],_=>[]
 | y :: ys,t=>hs y y.Heats.toNat 1 t ++ tt ys (Qf y y.Heats.toNat t + y.Break)
theorem tt_l2 (y : An) (hy : Kr y) (j2 : List Dx → Int → Option (List Dx)) : ∀ (k m : Nat) (x3 : List Dx) (x4 x5 : Int),y.Heats - x5 + 1 = k → 1 ≤ x5 → k < m → x3.length + k < 1073741824 → 0 ≤ x4 → x4 + k * 7200000 ≤ 4611686018427387904 →
  He y j2 m x3 x4 x5 = j2 (x3 ++ hs y k x5 x4) (Qf y k x4):=by
 intro k
 induction k with
 | zero =>
  intro m x3 x4 x5 hk h1 hm hr h0 hb
  obtain ⟨m',rfl⟩ : ∃ m',m = m' + 1:=⟨m - 1,by omega⟩
  rw [He,if_neg (by simp; omega)]
  simp [hs,Qf]
 | succ k ih =>
  intro m x3 x4 x5 hk h1 hm hr h0 hb
  obtain ⟨m',rfl⟩ : ∃ m',m = m' + 1:=⟨m - 1,by omega⟩
  have hg:=hy
  unfold Kr at hg
  have w1 : W (x4 + y.Long) = x4 + y.Long:=Ks (by omega) (by omega)
  have w2 : W (x4 + y.Long + y.Gap) = x4 + y.Long + y.Gap:=Ks (by omega) (by omega)
  have w3 : W (x5 + 1) = x5 + 1:=Ks (by omega) (by omega)
  have hroom : Pj x3.length = true:=by unfold Pj; simp; omega
  rw [He,if_pos (by simp; omega)]
  simp only [Uq]
  rw [Ot hroom,w1,w2,w3]
  by_cases hlast : x5 < y.Heats
  ·rw [if_pos (decide_eq_true hlast)]
   obtain ⟨k',rfl⟩ : ∃ k',k = k' + 1:=⟨k - 1,by omega⟩
   rw [ih m' _ _ _ (by omega) (by omega) (by omega) (by simp; omega) (by omega) (by push_cast at hb ⊢; omega)]
   simp [hs,Qf]
  ·rw [if_neg (by simpa using hlast)]
   have hk0 : k = 0:=by omega
   subst hk0
   rw [ih m' _ _ _ (by omega) (by omega) (by omega) (by simp; omega) (by omega) (by push_cast at hb ⊢; omega)]
   simp [hs,Qf]
theorem tt_l1 : ∀ (l : List An) (i : Nat) (x1 : List Dx) (x2 : Int),(∀ x ∈ l,Kr x) → l.length ≤ 100 → x1.length + l.length * 60 < 1073741824 → 0 ≤ x2 → x2 + l.length * 435600000 ≤ 4611686018427387904 →
  Hf (fun x=>some x) l i x1 x2 = some (x1 ++ tt l x2)
 | [],i,x1,x2,_,_,_,_,_=>by simp [Hf,tt]
 | y :: l,i,x1,x2,hg,hl,hr,h0,hb=>by
  have hy:=hg y List.mem_cons_self
  have hgood:=hy
  unfold Kr at hgood
  have hk : y.Heats.toNat ≤ 60:=by omega
  simp only [List.length_cons] at hr hb hl
  push_cast at hb
  have hbd:=Oj y hy y.Heats.toNat x2
  have w1 : W (Qf y y.Heats.toNat x2 + y.Break) = Qf y y.Heats.toNat x2 + y.Break:=Ks (by omega) (by omega)
  rw [Hf]
  simp only [Uq]
  rw [tt_l2 y hy _ y.Heats.toNat _ x1 x2 1 (by omega) (by omega) (by omega) (by omega) h0 (by omega),w1]
  rw [tt_l1 l (i + 1) _ _ (fun x hx=>hg x (List.mem_cons_of_mem _ hx)) (by omega) (by simp [CU]; omega) (by omega) (by omega)]
  simp [tt]
theorem Wp (l : List An) (t : Int) (hg : ∀ x ∈ l,Kr x) (hl : l.length ≤ 100) (h0 : 0 ≤ t) (h1 : t ≤ 345686400000) : Lc l t = some (tt l t):=by
 unfold Lc
 rw [Uq,tt_l1 l 0 [] t hg hl (by simp; omega) h0 (by omega)]
 simp
end Go.Proofs.YtombbefepcipcaaGreatDoor
namespace Go.Proofs.YtombbefepcipcaaGreatDoor
open Go

theorem IY {α : Type} [Inhabited α] (xs : List α) (s : α) (h : xs.length < 1073741824) : nth (xs ++ [s]) (W (((xs ++ [s]).length : Int) - 1)) = s:=by
 have w : W (((xs ++ [s]).length : Int) - 1) = (xs.length : Int):=by
  simp only [List.length_append,List.length_singleton]
  rw [Ks (by push_cast; omega) (by push_cast; omega)]
  push_cast; omega
 rw [w]
 unfold nth
 rw [Int.toNat_natCast]
 simp [List.getD]
theorem IZ {α : Type} (xs : List α) (s : α) (h : xs.length < 1073741824) : inB (W (((xs ++ [s]).length : Int) - 1)) (xs ++ [s]).length = true:=by
 have w : W (((xs ++ [s]).length : Int) - 1) = (xs.length : Int):=by
  simp only [List.length_append,List.length_singleton]
  rw [Ks (by push_cast; omega) (by push_cast; omega)]
  push_cast; omega
 rw [w]
 exact Iv.2 ⟨by omega,by simp; omega⟩
theorem GN (y : An) : ∀ k h t,∃ pre s,hs y (k + 1) h t = pre ++ [s] ∧ s.Time.To = Qf y (k + 1) t
 | 0,h,t=>⟨[],_,rfl,rfl⟩
 | k + 1,h,t=>by
  obtain ⟨pre,s,h1,h2⟩:=GN y k (h + 1) (t + y.Long + y.Gap)
  exact ⟨_ :: pre,s,by rw [hs,h1]; rfl,by rw [h2]; rfl⟩
end Go.Proofs.YtombbefepcipcaaGreatDoor
namespace Go.Proofs.YtombbefepcipcaaGreatDoor
open Go

theorem Zk : ∀ (l : List An) (t : Int),(∀ x ∈ l,Kr x) → (tt l t).length ≤ l.length * 60
 | [],_,_=>by simp [tt]
 | y :: l,t,hg=>by
  have h:=Zk l (Qf y y.Heats.toNat t + y.Break) (fun x hx=>hg x (List.mem_cons_of_mem _ hx))
  have hy:=hg y List.mem_cons_self
  unfold Kr at hy
  simp [tt,CU]
  omega
def Ok (l : List Dx) (t : Int) : Int:=match l.getLast? with
 | some s=>s.Time.To
 | none=>t
theorem JA (l : List Dx) (t : Int) (h : l.length < 1073741824) : Og l t = some (Ok l t):=by
 unfold Og
 rcases List.eq_nil_or_concat l with rfl | ⟨pre,s,rfl⟩
 ·rfl
 ·simp only [List.concat_eq_append] at h ⊢
  have hp : pre.length < 1073741824:=by simp at h; omega
  rw [if_neg (by simp; omega),Ot (IZ pre s hp),IY pre s hp]
  simp [Ok]
end Go.Proofs.YtombbefepcipcaaGreatDoor
namespace Go.Proofs.YtombbefepcipcaaGreatDoor
open Go

end Go.Proofs.YtombbefepcipcaaGreatDoor
namespace Go.Proofs.YtombbefepcipcaaGreatDoor
open Go
end Go.Proofs.YtombbefepcipcaaGreatDoor
namespace Go.Proofs.YtombbefepcipcaaGreatDoor
open Go
end Go.Proofs.YtombbefepcipcaaGreatDoor
namespace Go.Proofs.YtombbefepcipcaaGreatDoor
open Go
def ixN : List An → ByteArray → Option Nat
 | [],_=>none
 | y :: ys,key=>if y.Key = key then some 0 else (ixN ys key).map (· + 1)
def ixI (l : List An) (key : ByteArray) : Int:=match ixN l key with
 | some k=>k
 | none=>-1
theorem GO (key : ByteArray) : ∀ (l : List An) (i : Nat),Ex key (-1) l i = match ixN l key with | some k=>((i + k : Nat) : Int) | none=>-1
 | [],i=>rfl
 | y :: ys,i=>by
  rw [Ex,ixN]
  unfold Nx
  by_cases h : y.Key = key
  ·simp [h]
  ·rw [if_neg (by simpa using h),if_neg h,GO key ys (i + 1)]
   cases ixN ys key with
   | none=>rfl
   | some k=>simp only [Option.map_some]; congr 1; omega
theorem Yq (l : List An) (key : ByteArray) : Ea l key = ixI l key:=by
 unfold Ea Ia ixI
 rw [Uq,GO]; simp
theorem CW : ∀ {l : List An} {key : ByteArray} {k : Nat},ixN l key = some k → k < l.length
 | [],_,_,h=>by cases h
 | y :: ys,key,k,h=>by
  rw [ixN] at h
  split at h
  ·cases h; simp
  ·cases hq : ixN ys key with
   | none=>rw [hq] at h; cases h
   | some q=>rw [hq] at h; cases h; have:=CW hq; simp; omega
def offN : List An → Nat → Nat
 | _,0=>0
 | [],_ + 1=>0
 | y :: ys,k + 1=>y.Heats.toNat + offN ys k
def atN (key : ByteArray) (h : Int) : List Dx → Option Nat
 | []=>none
 | s :: l=>if s.Item = key ∧ s.Heat = h then some 0 else (atN key h l).map (· + 1)
theorem GP (key : ByteArray) (h : Int) : ∀ (a b : List Dx),atN key h (a ++ b) = match atN key h a with | some k=>some k | none=>(atN key h b).map (· + a.length)
 | [],b=>by simp [atN]
 | s :: a,b=>by
  simp only [List.cons_append,atN,GP key h a b]
  split
  ·rfl
  ·cases atN key h a with
   | some k=>rfl
   | none=>simp only [Option.map_none]; cases atN key h b with
    | none=>rfl
    | some q=>simp; omega
theorem hs_at (y : An) (key : ByteArray) (h : Int) : ∀ (k : Nat) (h0 t : Int),atN key h (hs y k h0 t) = if y.Key = key ∧ h0 ≤ h ∧ h < h0 + k then some (h - h0).toNat else none
 | 0,h0,t=>by simp only [hs,atN]; rw [if_neg]; simp
 | k + 1,h0,t=>by
  simp only [hs,atN,hs_at y key h k (h0 + 1)]
  by_cases hk : y.Key = key
  ·by_cases hh : h0 = h
   ·subst hh; rw [if_pos ⟨hk,rfl⟩,if_pos ⟨hk,by omega,by push_cast; omega⟩]; simp
   ·rw [if_neg (fun g=>hh g.2)]
    by_cases hr : h0 + 1 ≤ h ∧ h < h0 + 1 + (k : Int)
    ·rw [if_pos ⟨hk,hr⟩,if_pos ⟨hk,by omega,by push_cast; omega⟩]; simp; omega
    ·rw [if_neg (fun g=>hr g.2),if_neg (fun g=>hr ⟨by omega,by have:=g.2.2; push_cast at this; omega⟩)]; rfl
  ·rw [if_neg (fun g=>hk g.1),if_neg (fun g=>hk g.1),if_neg (fun g=>hk g.1)]; rfl
theorem tt_at : ∀ (l : List An) (t : Int) (key : ByteArray) (h : Int) (k : Nat) (y : An),ixN l key = some k → l[k]? = some y → 1 ≤ h → h ≤ y.Heats → atN key h (tt l t) = some (offN l k + (h - 1).toNat)
 | [],_,_,_,_,_,h0,_,_,_=>by cases h0
 | x :: xs,t,key,h,k,y,h0,h1,h2,h3=>by
  rw [tt,GP,hs_at]
  rw [ixN] at h0
  by_cases hk : x.Key = key
  ·rw [if_pos hk] at h0
   cases h0
   cases h1
   rw [if_pos ⟨hk,h2,by omega⟩]; simp [offN]
  ·rw [if_neg hk] at h0
   cases hq : ixN xs key with
   | none=>rw [hq] at h0; cases h0
   | some q =>
    rw [hq] at h0
    cases h0
    rw [if_neg (fun g=>hk g.1)]
    simp only
    rw [tt_at xs _ key h q y hq (by simpa using h1) h2 h3,CU]
    simp only [Option.map_some,offN]; congr 1; omega
end Go.Proofs.YtombbefepcipcaaGreatDoor
namespace Go.Proofs.YtombbefepcipcaaGreatDoor
open Go
theorem GQ : ∀ l : List UInt8,Lib.compareBytes l l = 0
 | []=>rfl
 | a :: l=>by
  rw [Lib.compareBytes,if_neg (by simp),if_neg (by simp)]; exact GQ l
theorem GR : ∀ l m : List UInt8,Lib.compareBytes l m = 0 → l = m
 | [],[],_=>rfl
 | [],_ :: _,h=>by simp [Lib.compareBytes] at h
 | _ :: _,[],h=>by simp [Lib.compareBytes] at h
 | a :: l,b :: m,h=>by
  rw [Lib.compareBytes] at h
  split at h
  ·cases h
  ·split at h
   ·cases h
   ·rename_i h1 h2
    rw [UInt8.lt_iff_toNat_lt] at h1 h2
    rw [GR l m h,show a = b from UInt8.toNat_inj.1 (by omega)]
theorem GS : ∀ l m : List UInt8,Lib.compareBytes m l = - Lib.compareBytes l m
 | [],[]=>rfl
 | [],_ :: _=>rfl
 | _ :: _,[]=>rfl
 | a :: l,b :: m=>by
  rw [Lib.compareBytes,Lib.compareBytes,GS l m]
  simp only [UInt8.lt_iff_toNat_lt]
  by_cases h1 : a.toNat < b.toNat
  ·rw [if_neg (by omega),if_pos h1,if_pos h1]; rfl
  ·by_cases h2 : b.toNat < a.toNat
   ·rw [if_pos h2,if_neg h1,if_pos h2]
   ·rw [if_neg h2,if_neg h1,if_neg h1,if_neg h2]
theorem EC : ∀ l m k : List UInt8,Lib.compareBytes l m < 0 → Lib.compareBytes m k < 0 → Lib.compareBytes l k < 0
 | l,m,[],_,h=>by cases m <;> simp [Lib.compareBytes] at h
 | [],m,c :: k,_,_=>by simp [Lib.compareBytes]
 | a :: l,[],c :: k,h,_=>by simp [Lib.compareBytes] at h
 | a :: l,b :: m,c :: k,h1,h2=>by
  rw [Lib.compareBytes] at h1 h2 ⊢
  simp only [UInt8.lt_iff_toNat_lt] at h1 h2 ⊢
  by_cases g1 : a.toNat < b.toNat
  ·by_cases g2 : c.toNat < b.toNat
   ·rw [if_neg (by omega),if_pos g2] at h2; cases h2
   ·rw [if_pos (by omega)]; decide
  ·by_cases g1' : b.toNat < a.toNat
   ·rw [if_neg g1,if_pos g1'] at h1; cases h1
   ·rw [if_neg g1,if_neg g1'] at h1
    by_cases g2 : b.toNat < c.toNat
    ·rw [if_pos (by omega)]; decide
    ·by_cases g3 : c.toNat < b.toNat
     ·rw [if_neg g2,if_pos g3] at h2; cases h2
     ·rw [if_neg g2,if_neg g3] at h2
      rw [if_neg (by omega),if_neg (by omega)]
      exact EC l m k h1 h2
def cB (s t : ByteArray) : Int:=Lib.compareBytes s.data.toList t.data.toList
theorem Th (s : ByteArray) : cB s s = 0:=GQ _
theorem Yr {s t : ByteArray} (h : cB s t = 0) : s = t:=by
 have:=GR _ _ h
 cases s; cases t
 simpa using this
theorem cB_eq {s t : ByteArray} : cB s t = 0 ↔ s = t:=⟨Yr,fun h=>by rw [h]; exact Th t⟩
theorem cB_flip (s t : ByteArray) : cB t s = - cB s t:=GS _ _
theorem Uj {s t u : ByteArray} (h1 : cB s t < 0) (h2 : cB t u < 0) : cB s u < 0:=EC _ _ _ h1 h2
def leB (s t : ByteArray) : Prop:=cB s t < 0 ∨ s = t
theorem Wq : ∀ l m : List UInt8,Op.bytesLess l m = decide (Lib.compareBytes l m < 0)
 | [],[]=>rfl
 | [],_ :: _=>rfl
 | _ :: _,[]=>rfl
 | a :: l,b :: m=>by
  rw [Op.bytesLess,Lib.compareBytes]
  simp only [UInt8.lt_iff_toNat_lt]
  by_cases h1 : a.toNat < b.toNat
  ·simp [h1]
  ·by_cases h2 : b.toNat < a.toNat
   ·have : a ≠ b:=by rintro rfl; omega
    simp [h1,h2,this]
   ·have : a = b:=UInt8.toNat_inj.1 (by omega)
    simp [this,Wq l m]
theorem JB (s t : ByteArray) : Vc s t = decide (cB s t < 0):=by
 unfold Vc cB
 rw [Wq,ByteArray.toList_eq,ByteArray.toList_eq]
end Go.Proofs.YtombbefepcipcaaGreatDoor
namespace Go.Proofs.YtombbefepcipcaaGreatDoor
open Go
theorem Lz {κ R : Type} (K : κ) (f : κ → R) : Hq K f = f K:=rfl
theorem Li {R : Type} {c : Bool} {k : Option R} (h : c = true) : Chk c k = k:=by subst h; rfl
section
variable {α R : Type}
theorem JC (C : α → (Bool → R) → R) (p : α → Bool) (j : R) (o : Int → R) (F : List α → Nat → R) (h0 : ∀ i,F [] i = j) (h1 : ∀ y ys i,F (y :: ys) i = C y (fun b=>if b then o (i : Int) else F ys (i + 1))) :
  ∀ (l : List α) (i : Nat),(∀ x ∈ l,∀ k,C x k = k (p x)) → (∃ pre y post,l = pre ++ y :: post ∧ (∀ x ∈ pre,p x = false) ∧ p y = true ∧ F l i = o ((i + pre.length : Nat) : Int)) ∨ ((∀ x ∈ l,p x = false) ∧ F l i = j)
 | [],i,_=>.inr ⟨fun _ h=>(List.not_mem_nil h).elim,h0 i⟩
 | y :: ys,i,hC=>by
  rw [h1,hC y List.mem_cons_self]
  cases hy : p y with
  | true=>exact .inl ⟨[],y,ys,rfl,fun _ h=>(List.not_mem_nil h).elim,hy,by simp⟩
  | false =>
   simp only [Bool.false_eq_true,if_false]
   rcases JC C p j o F h0 h1 ys (i + 1) (fun x hx=>hC x (List.mem_cons_of_mem _ hx)) with ⟨pre,z,post,e,g1,g2,g3⟩ | ⟨g1,g2⟩
   ·refine .inl ⟨y :: pre,z,post,by rw [e]; rfl,fun x hx=>?_,g2,by rw [g3]; congr 2; simp; omega⟩
    rcases List.mem_cons.1 hx with rfl | hx
    ·exact hy
    ·exact g1 x hx
   ·refine .inr ⟨fun x hx=>?_,g2⟩
    rcases List.mem_cons.1 hx with rfl | hx
    ·exact hy
    ·exact g1 x hx
variable [Inhabited α]
theorem Ys (a : List α) (y : α) (b : List α) {e : Int} (he : e = (a.length : Int)) : nth (a ++ y :: b) e = y:=by
 subst he
 simp [nth]
theorem Wr (C : α → (Bool → Option R) → Option R) (p : α → Bool) (j : List α → Int → Option R) (F : Nat → List α → Int → Int → Option R)
  (h : ∀ m x1 x2 x3,F (m + 1) x1 x2 x3 = if decide (x3 < (x1.length : Int)) then Chk (inB x3 x1.length) (C (nth x1 x3) (fun b=>if !b then Chk (inB x2 x1.length) (F m (x1.set x2.toNat (nth x1 x3)) (W (x2 + 1)) (W (x3 + 1))) else F m x1 x2 (W (x3 + 1)))) else j x1 x2) :
  ∀ (rest kept mid : List α) (m : Nat),rest.length < m → kept.length + mid.length + rest.length ≤ 1073741824 → (∀ x ∈ rest,∀ k,C x k = k (p x)) →
   ∃ mid',F m (kept ++ mid ++ rest) (kept.length : Int) ((kept.length + mid.length : Nat) : Int) = j (kept ++ rest.filter (fun x=>!p x) ++ mid') ((kept ++ rest.filter (fun x=>!p x)).length : Int)
 | [],kept,mid,m,h1,h2,_=>by
  obtain ⟨m,rfl⟩ : ∃ q,m = q + 1:=⟨m - 1,by omega⟩
  rw [h,if_neg (by simp)]
  exact ⟨mid,by simp⟩
 | y :: r,kept,mid,m,h1,h2,hC=>by
  obtain ⟨m,rfl⟩ : ∃ q,m = q + 1:=⟨m - 1,by omega⟩
  simp only [List.length_cons] at h1 h2
  have hn : nth (kept ++ mid ++ y :: r) ((kept.length + mid.length : Nat) : Int) = y:=Ys _ _ _ (by simp)
  rw [h,if_pos (by simp; omega),Li (Iv.2 (by simp; omega)),hn,hC y List.mem_cons_self]
  have w1 : W (((kept.length + mid.length : Nat) : Int) + 1) = ((kept.length + mid.length + 1 : Nat) : Int):=by rw [Ks (by omega) (by omega)]; rfl
  have w2 : W ((kept.length : Int) + 1) = ((kept.length + 1 : Nat) : Int):=by rw [Ks (by omega) (by omega)]; rfl
  cases hy : p y with
  | true =>
   simp only [Bool.not_true,Bool.false_eq_true,if_false,w1]
   obtain ⟨mid',e⟩:=Wr C p j F h r kept (mid ++ [y]) m (by omega) (by simp; omega) (fun x hx=>hC x (List.mem_cons_of_mem _ hx))
   refine ⟨mid',?_⟩
   have e1 : kept ++ mid ++ y :: r = kept ++ (mid ++ [y]) ++ r:=by simp
   have e2 : (y :: r).filter (fun x=>!p x) = r.filter (fun x=>!p x):=by simp [hy]
   rw [e1,e2,← e]
   congr 2
   simp
   omega
  | false =>
   simp only [Bool.not_false,if_true,w1,w2]
   rw [Li (Iv.2 (by simp; omega))]
   have e2 : (y :: r).filter (fun x=>!p x) = y :: r.filter (fun x=>!p x):=by simp [hy]
   cases mid with
   | nil =>
    obtain ⟨mid',e⟩:=Wr C p j F h r (kept ++ [y]) [] m (by omega) (by simp; omega) (fun x hx=>hC x (List.mem_cons_of_mem _ hx))
    refine ⟨mid',?_⟩
    have e1 : (kept ++ [] ++ y :: r).set (kept.length : Int).toNat y = kept ++ [y] ++ [] ++ r:=by simp
    rw [e1,e2]
    have e3 : kept ++ y :: r.filter (fun x=>!p x) = kept ++ [y] ++ r.filter (fun x=>!p x):=by simp
    rw [e3,← e]
    simp
   | cons z mid0 =>
    obtain ⟨mid',e⟩:=Wr C p j F h r (kept ++ [y]) (mid0 ++ [y]) m (by omega) (by simp at h2 ⊢; omega) (fun x hx=>hC x (List.mem_cons_of_mem _ hx))
    refine ⟨mid',?_⟩
    have e1 : (kept ++ z :: mid0 ++ y :: r).set (kept.length : Int).toNat y = kept ++ [y] ++ (mid0 ++ [y]) ++ r:=by simp
    rw [e1,e2]
    have e3 : kept ++ y :: r.filter (fun x=>!p x) = kept ++ [y] ++ r.filter (fun x=>!p x):=by simp
    rw [e3,← e]
    congr 1
    ·simp
    ·simp
     omega
omit [Inhabited α] in
theorem cut_clr (a b : List α) (z : α) : Tl (a.length : Int) ((a ++ b).length : Int) (a ++ b).length = true ∧ Tl 0 (a.length : Int) (clr (a ++ b) (a.length : Int) ((a ++ b).length : Int) z).length = true ∧ cut (clr (a ++ b) (a.length : Int) ((a ++ b).length : Int) z) 0 (a.length : Int) = a:=by
 refine ⟨Pq.2 (by simp; omega),Pq.2 ⟨by omega,by omega,by simp [clr]; omega⟩,?_⟩
 simp [cut,clr]
def Rj (lt : α → α → Bool) (x : α) : List α → List α
 | []=>[x]
 | y :: r=>if lt x y then y :: Rj lt x r else x :: y :: r
def Tk (lt : α → α → Bool) (l rp : List α) : List α:=l.foldl (fun rp x=>Rj lt x rp) rp
def Jv (lt : α → α → Bool) (l : List α) : List α:=(Tk lt l []).reverse
omit [Inhabited α] in
theorem Uk (lt : α → α → Bool) (x : α) : ∀ l : List α,(Rj lt x l).length = l.length + 1
 | []=>rfl
 | y :: r=>by
  unfold Rj
  split
  ·simp [Uk lt x r]
  ·rfl
omit [Inhabited α] in
theorem Ws (lt : α → α → Bool) (x z : α) : ∀ l : List α,z ∈ Rj lt x l ↔ z = x ∨ z ∈ l
 | []=>by simp [Rj]
 | y :: r=>by
  unfold Rj
  split
  ·simp only [List.mem_cons,Ws lt x z r]
   constructor
   ·rintro (h | h | h)
    ·exact .inr (.inl h)
    ·exact .inl h
    ·exact .inr (.inr h)
   ·rintro (h | h | h)
    ·exact .inr (.inl h)
    ·exact .inl h
    ·exact .inr (.inr h)
  ·simp
theorem GT (C : α → α → (Bool → Option R) → Option R) (lt : α → α → Bool) (j : List α → Option R) (F : Nat → List α → Int → Option R)
  (h : ∀ m x i,F (m + 1) x i = if decide (0 < i) then Chk (inB i x.length) (Chk (inB (W (i - 1)) x.length) (C (nth x i) (nth x (W (i - 1))) (fun b=>if b then
   Chk (inB (W (i - 1)) x.length) (Chk (inB i x.length) (Chk (inB i x.length) (Chk (inB (W (i - 1)) (x.set i.toNat (nth x (W (i - 1)))).length) (F m ((x.set i.toNat (nth x (W (i - 1)))).set (W (i - 1)).toNat (nth x i)) (W (i - 1)))))) else j x))) else j x) :
  ∀ (rp : List α) (x : α) (post : List α) (m : Nat),rp.length < m → rp.length + post.length < 1073741824 → (∀ y ∈ rp,∀ k,C x y k = k (lt x y)) →
   F m (rp.reverse ++ x :: post) (rp.length : Int) = j ((Rj lt x rp).reverse ++ post)
 | [],x,post,m,h1,h2,_=>by
  obtain ⟨m,rfl⟩ : ∃ q,m = q + 1:=⟨m - 1,by omega⟩
  rw [h,if_neg (by simp)]
  rfl
 | y :: r,x,post,m,h1,h2,hC=>by
  obtain ⟨m,rfl⟩ : ∃ q,m = q + 1:=⟨m - 1,by omega⟩
  simp only [List.length_cons] at h1 h2
  have e0 : (y :: r).reverse ++ x :: post = r.reverse ++ y :: x :: post:=by simp
  have e0' : r.reverse ++ y :: x :: post = (r.reverse ++ [y]) ++ x :: post:=by simp
  have wi : W ((((y :: r).length : Nat) : Int) - 1) = (r.length : Int):=by rw [Ks (by simp only [List.length_cons]; omega) (by simp only [List.length_cons]; omega)]; simp
  have n1 : nth (r.reverse ++ y :: x :: post) (((y :: r).length : Nat) : Int) = x:=by rw [e0']; exact Ys _ _ _ (by simp)
  have n2 : nth (r.reverse ++ y :: x :: post) (r.length : Int) = y:=Ys _ _ _ (by simp)
  have b1 : inB (((y :: r).length : Nat) : Int) (r.reverse ++ y :: x :: post).length = true:=Iv.2 ⟨by omega,by simp; omega⟩
  have b2 : inB (r.length : Int) (r.reverse ++ y :: x :: post).length = true:=Iv.2 (by simp; omega)
  rw [h,e0,if_pos (decide_eq_true (by simp only [List.length_cons]; omega)),wi,Li b1,Li b2,n1,n2,hC y List.mem_cons_self]
  unfold Rj
  cases hb : lt x y with
  | true =>
   simp only [if_true]
   rw [Li b2,Li b1,Li b1,Li (by rw [List.length_set]; exact b2)]
   have e1 : ((r.reverse ++ y :: x :: post).set (((y :: r).length : Nat) : Int).toNat y).set (r.length : Int).toNat x = r.reverse ++ x :: (y :: post):=by
    have e2 : (r.reverse ++ y :: x :: post).set (((y :: r).length : Nat) : Int).toNat y = r.reverse ++ y :: y :: post:=by
     rw [e0',show (((y :: r).length : Nat) : Int).toNat = (r.reverse ++ [y]).length by simp,List.set_append_right _ _ (Nat.le_refl _)]
     simp
    rw [e2,show (r.length : Int).toNat = r.reverse.length by simp,List.set_append_right _ _ (Nat.le_refl _)]
    simp
   rw [e1,GT C lt j F h r x (y :: post) m (by omega) (by simp; omega) (fun z hz=>hC z (List.mem_cons_of_mem _ hz))]
   simp
  | false=>simp
omit [Inhabited α] in
theorem Yt (lt : α → α → Bool) (j : List α → Option R) (G : (List α → Option R) → List α → Int → Option R) (F : Nat → List α → Int → Option R) (n : Int)
  (h : ∀ m x i,F (m + 1) x i = if decide (i < n) then G (fun x=>F m x (W (i + 1))) x i else j x)
  (hG : ∀ k (rp : List α) (x : α) (post : List α),((rp ++ x :: post).length : Int) = n → (∀ y,y ∈ rp ∨ y = x ∨ y ∈ post → y ∈ (rp ++ x :: post)) → G k (rp.reverse ++ x :: post) (rp.length : Int) = k ((Rj lt x rp).reverse ++ post)) :
  ∀ (rest rp : List α) (m : Nat),rest.length < m → ((rp.length + rest.length : Nat) : Int) = n → rp.length + rest.length < 1073741824 →
   F m (rp.reverse ++ rest) (rp.length : Int) = j (Tk lt rest rp).reverse
 | [],rp,m,h1,h2,_=>by
  obtain ⟨m,rfl⟩ : ∃ q,m = q + 1:=⟨m - 1,by omega⟩
  rw [h,if_neg (by simp at h2; simp; omega)]
  simp [Tk]
 | x :: r,rp,m,h1,h2,h3=>by
  obtain ⟨m,rfl⟩ : ∃ q,m = q + 1:=⟨m - 1,by omega⟩
  simp only [List.length_cons] at h1 h2 h3
  rw [h,if_pos (by simp; omega),hG _ rp x r (by simp; omega) (fun y hy=>by simpa using hy),show W ((rp.length : Int) + 1) = ((Rj lt x rp).length : Int) by rw [Ks (by omega) (by omega),Uk]; rfl,
   Yt lt j G F n h hG r (Rj lt x rp) m (by omega) (by rw [Uk]; omega) (by rw [Uk]; omega)]
  rfl
omit [Inhabited α] in
theorem BA (lt : α → α → Bool) (z : α) : ∀ l rp : List α,z ∈ Tk lt l rp ↔ z ∈ l ∨ z ∈ rp
 | [],rp=>by simp [Tk]
 | x :: l,rp=>by
  show z ∈ Tk lt l (Rj lt x rp) ↔ _
  rw [BA lt z l,Ws]
  simp only [List.mem_cons]
  constructor
  ·rintro (h | h | h)
   ·exact .inl (.inr h)
   ·exact .inl (.inl h)
   ·exact .inr h
  ·rintro ((h | h) | h)
   ·exact .inr (.inl h)
   ·exact .inl h
   ·exact .inr (.inr h)
omit [Inhabited α] in
end
end Go.Proofs.YtombbefepcipcaaGreatDoor
namespace Go.Proofs.YtombbefepcipcaaGreatDoor
open Go
section
variable {α : Type}
theorem BB {lt : α → α → Bool} (ht : ∀ x y z,lt x y = true → lt y z = true → lt x z = true) (x : α) : ∀ rp : List α,rp.Pairwise (fun a b=>lt b a = true) → (∀ y ∈ rp,lt x y = false → lt y x = true) → (Rj lt x rp).Pairwise fun a b=>lt b a = true
 | [],_,_=>by simp [Rj]
 | y :: r,h,hx=>by
  rw [List.pairwise_cons] at h
  unfold Rj
  cases hxy : lt x y with
  | true =>
   rw [if_pos rfl]
   refine List.pairwise_cons.2 ⟨fun z hz=>?_,BB ht x r h.2 fun z hz=>hx z (List.mem_cons_of_mem _ hz)⟩
   rcases (Ws lt x z r).1 hz with rfl | hz
   ·exact hxy
   ·exact h.1 z hz
  | false =>
   rw [if_neg (by simp)]
   have h1:=hx y (by simp) hxy
   refine List.pairwise_cons.2 ⟨fun z hz=>?_,List.pairwise_cons.2 h⟩
   rcases List.mem_cons.1 hz with rfl | hz
   ·exact h1
   ·exact ht z y x (h.1 z hz) h1
theorem Zl {lt : α → α → Bool} (ht : ∀ x y z,lt x y = true → lt y z = true → lt x z = true) : ∀ l rp : List α,rp.Pairwise (fun a b=>lt b a = true) → (∀ x ∈ l,∀ y ∈ rp,lt x y = false → lt y x = true) → l.Pairwise (fun a b=>lt b a = false → lt a b = true) →
  (Tk lt l rp).Pairwise fun a b=>lt b a = true
 | [],rp,h,_,_=>h
 | x :: l,rp,h,h1,h2=>by
  rw [List.pairwise_cons] at h2
  show (Tk lt l (Rj lt x rp)).Pairwise _
  refine Zl ht l _ (BB ht x rp h (h1 x (by simp))) (fun z hz y hy=>?_) h2.2
  rcases (Ws lt x y rp).1 hy with rfl | hy
  ·exact h2.1 z hz
  ·exact h1 z (List.mem_cons_of_mem _ hz) y hy
theorem BC {lt : α → α → Bool} (ht : ∀ x y z,lt x y = true → lt y z = true → lt x z = true) (l : List α) (h : l.Pairwise fun a b=>lt b a = false → lt a b = true) : (Jv lt l).Pairwise fun a b=>lt a b = true:=by
 unfold Jv
 rw [List.pairwise_reverse]
 exact Zl ht l [] List.Pairwise.nil (fun _ _ _ h=>by cases h) h
theorem Ur (lt : α → α → Bool) (l : List α) (z : α) : z ∈ Jv lt l ↔ z ∈ l:=by
 unfold Jv
 rw [List.mem_reverse,BA]
 simp
theorem CX {lt : α → α → Bool} (hi : ∀ x,lt x x = false) (ht : ∀ x y z,lt x y = true → lt y z = true → lt x z = true) : ∀ A B : List α,A.Pairwise (fun a b=>lt a b = true) → B.Pairwise (fun a b=>lt a b = true) → (∀ x,x ∈ A ↔ x ∈ B) → A = B
 | [],[],_,_,_=>rfl
 | [],b :: B,_,_,h=>by have:=(h b).2 (by simp); cases this
 | a :: A,[],_,_,h=>by have:=(h a).1 (by simp); cases this
 | a :: A,b :: B,hA,hB,h=>by
  rw [List.pairwise_cons] at hA hB
  have hab : a = b:=by
   rcases List.mem_cons.1 ((h a).1 (by simp)) with e | h1
   ·exact e
   ·rcases List.mem_cons.1 ((h b).2 (by simp)) with e | h2
    ·exact e.symm
    ·have:=ht a b a (hA.1 b h2) (hB.1 a h1)
     rw [hi] at this
     cases this
  subst hab
  have : A = B:=CX hi ht A B hA.2 hB.2 fun x=>by
   have hx:=h x
   constructor
   ·intro hm
    rcases List.mem_cons.1 (hx.1 (List.mem_cons_of_mem _ hm)) with rfl | h3
    ·have:=hA.1 x hm; rw [hi] at this; cases this
    ·exact h3
   ·intro hm
    rcases List.mem_cons.1 (hx.2 (List.mem_cons_of_mem _ hm)) with rfl | h3
    ·have:=hB.1 x hm; rw [hi] at this; cases this
    ·exact h3
  rw [this]
theorem Zm (lt : α → α → Bool) : ∀ l rp : List α,(Tk lt l rp).length = l.length + rp.length
 | [],rp=>by simp [Tk]
 | x :: l,rp=>by
  show (Tk lt l (Rj lt x rp)).length = _
  rw [Zm lt l,Uk]
  simp only [List.length_cons]
  omega
theorem Zn (lt : α → α → Bool) (l : List α) : (Jv lt l).length = l.length:=by
 unfold Jv
 rw [List.length_reverse,Zm]
 simp
theorem JD {lt : α → α → Bool} (hi : ∀ x,lt x x = false) (ht : ∀ x y z,lt x y = true → lt y z = true → lt x z = true) (A B : List α) (h : A.Pairwise fun a b=>lt b a = false → lt a b = true) (hB : B.Pairwise fun a b=>lt a b = true) (hm : ∀ x,x ∈ A ↔ x ∈ B) : Jv lt A = B :=
 CX hi ht _ _ (BC ht A h) hB fun x=>by rw [Ur,hm]
theorem BD (lt : α → α → Bool) (x : α) : ∀ rp : List α,(Rj lt x rp).Perm (x :: rp)
 | []=>List.Perm.refl _
 | y :: r=>by
  unfold Rj
  split
  ·exact ((BD lt x r).cons y).trans (List.Perm.swap x y r)
  ·exact List.Perm.refl _
theorem Zo (lt : α → α → Bool) : ∀ l rp : List α,(Tk lt l rp).Perm (l ++ rp)
 | [],_=>List.Perm.refl _
 | x :: l,rp=>(Zo lt l (Rj lt x rp)).trans (((BD lt x rp).append_left l).trans List.perm_middle)
theorem FG (lt : α → α → Bool) (l : List α) : (Jv lt l).Perm l:=by
 have h:=Zo lt l []
 rw [List.append_nil] at h
 exact (List.reverse_perm _).trans h
def nbF [DecidableEq α] (p : α) : List α → List α
 | []=>[]
 | y :: r=>if y = p then nbF y r else y :: nbF y r
def nb [DecidableEq α] : List α → List α
 | []=>[]
 | x :: r=>x :: nbF x r
variable {R : Type} [Inhabited α]
theorem Pi {l : List α} {k : Nat} {y : α} (h : l[k]? = some y) : nth l (k : Int) = y:=by simp [nth,List.getD,h]
theorem del_is (z : α) (p : α → Bool) (Fi : List α → Nat → Int) (Fd : Nat → List α → Int → Int → Option (List α)) (hi0 : ∀ i,Fi [] i = -1) (hi1 : ∀ y ys i,Fi (y :: ys) i = if p y then (i : Int) else Fi ys (i + 1))
  (hd : ∀ m x1 x2 x3,Fd (m + 1) x1 x2 x3 = if decide (x3 < (x1.length : Int)) then Chk (inB x3 x1.length) (if !(p (nth x1 x3)) then Chk (inB x2 x1.length) (Fd m (x1.set x2.toNat (nth x1 x3)) (W (x2 + 1)) (W (x3 + 1))) else Fd m x1 x2 (W (x3 + 1)))
   else Chk (Tl x2 (x1.length : Int) x1.length) (Chk (Tl 0 x2 (clr x1 x2 (x1.length : Int) z).length) (some (cut (clr x1 x2 (x1.length : Int) z) (0 : Int) x2))))
  (v : List α) (hv : v.length < 1000000000) : (if decide (Fi v 0 = (-1)) then some v else Fd (((v.length : Int) - (W (Fi v 0 + 1))).toNat + 2) v (Fi v 0) (W (Fi v 0 + 1))) = some (v.filter fun b=>!p b):=by
 rcases JC (fun x k=>k (p x)) p (-1) id Fi (fun i=>hi0 i) (fun y ys i=>hi1 y ys i) v 0 (fun _ _ _=>rfl) with ⟨pre,y,post,e,g1,g2,g3⟩ | ⟨g1,g2⟩
 ·rw [g3]
  have hn : ((0 + pre.length : Nat) : Int) = (pre.length : Int):=by simp
  have hlen : pre.length + 1 + post.length = v.length:=by rw [e]; simp; omega
  rw [if_neg (by simp only [id,decide_eq_true_eq]; omega),id,hn,show W ((pre.length : Int) + 1) = ((pre.length + ([y] : List α).length : Nat) : Int) by rw [Ks (by omega) (by omega)]; simp]
  obtain ⟨mid,e2⟩:=Wr (fun x k=>k (p x)) p _ Fd (fun m x1 x2 x3=>hd m x1 x2 x3) post pre [y] (((v.length : Int) - ((pre.length + ([y] : List α).length : Nat) : Int)).toNat + 2) (by simp; omega) (by simp; omega) (fun _ _ _=>rfl)
  have e3 : v = pre ++ [y] ++ post:=by rw [e]; simp
  have e4 : (v.filter fun b=>!p b) = pre ++ post.filter fun b=>!p b:=by
   have h5 : (pre.filter fun b=>!p b) = pre:=List.filter_eq_self.2 fun x hx=>by simp [g1 x hx]
   conv=>lhs; arg 2; rw [e3]
   rw [List.filter_append,List.filter_append,h5]
   simp [g2]
  have e5 : ∀ w : List α,w = pre ++ [y] ++ post → Fd (((v.length : Int) - ((pre.length + ([y] : List α).length : Nat) : Int)).toNat + 2) w (pre.length : Int) ((pre.length + ([y] : List α).length : Nat) : Int) = some (v.filter fun b=>!p b):=by
   intro w hw
   rw [hw,e2]
   obtain ⟨c1,c2,c3⟩:=cut_clr (pre ++ post.filter fun b=>!p b) mid z
   rw [Li c1,Li c2,c3,e4]
  exact e5 v e3
 ·rw [g2,if_pos (by simp [id])]
  congr 1
  exact (List.filter_eq_self.2 fun x hx=>by simp [g1 x hx]).symm
end
end Go.Proofs.YtombbefepcipcaaGreatDoor
namespace Go.Proofs.YtombbefepcipcaaGreatDoor
open Go
theorem JE (x y : Int) : Ga x y = if x < y then -1 else if y < x then 1 else 0:=by
 unfold Ga Nn
 simp
theorem orc3 (a b c : Int) : Mk [a,b,c] = if a ≠ 0 then a else if b ≠ 0 then b else c:=by
 unfold Mk
 simp only [Lz,Kg]
 by_cases h1 : a = 0 <;> by_cases h2 : b = 0 <;> by_cases h3 : c = 0 <;> simp [h1,h2,h3]
theorem orc2 (a b : Int) : Mk [a,b] = if a ≠ 0 then a else b:=by
 unfold Mk
 simp only [Lz,Kg]
 by_cases h1 : a = 0 <;> by_cases h2 : b = 0 <;> simp [h1,h2]
def cC (a b : Eh) : Int:=if cB a.Who b.Who ≠ 0 then cB a.Who b.Who else if cB a.Item b.Item ≠ 0 then cB a.Item b.Item else if a.Heat < b.Heat then -1 else if b.Heat < a.Heat then 1 else 0
theorem Yg (a b : Eh) : Jz a b = cC a b:=by
 unfold Jz cC
 have h1 : Hw a.Who b.Who = cB a.Who b.Who:=rfl
 have h2 : Hw a.Item b.Item = cB a.Item b.Item:=rfl
 rw [orc3,JE,h1,h2]
structure CV (items : List An) (c : Eh) (k : Nat) (y : An) : Prop where
 ix : ixN items c.Item = some k
 get : items[k]? = some y
 h1 : 1 ≤ c.Heat
 h2 : c.Heat ≤ y.Heats
def FH (l : List Eh) : Prop:=∀ dn p q ys,l = dn ++ p :: q :: ys → cC p q < 0
end Go.Proofs.YtombbefepcipcaaGreatDoor
namespace Go.Proofs.YtombbefepcipcaaGreatDoor
open Go
abbrev Rows:=List (List Dw)
def Mi (items : List An) (need : Int) (p : Option ByteArray) (c : Eh) (s : Int × Rows) : Int × Rows :=
 let x3:=if p = some c.Who then s.2 else s.2 ++ [List.replicate items.length (Dw.mk 0 0)]
 let k:=Ea items c.Item
 let row:=nth x3 ((x3.length : Int) - 1)
 (if (nth row k).last_ = 0 then s.1 else if (W ((W ((W ((W (c.Heat - (nth row k).last_)) - 1)) * (nth items k).Long)) + (W ((W (c.Heat - (nth row k).last_)) * (nth items k).Gap)))) < need then W (s.1 + 1) else s.1,
  x3.set (x3.length - 1) (row.set k.toNat (Dw.mk (if (nth row k).last_ = 0 then c.Heat else (nth row k).first_) c.Heat)))
def Ol (items : List An) (need : Int) : Option ByteArray → List Eh → Int × Rows → Int × Rows
 | _,[],s=>s
 | p,c :: cs,s=>Ol items need (some c.Who) cs (Mi items need p c s)
def AC (n : Nat) (s : Rows) : Prop:=∀ row ∈ s,row.length = n
theorem CY {α : Type} [Inhabited α] {l : List α} {i : Int} (h0 : 0 ≤ i) (h : i < l.length) : nth l i ∈ l:=by
 have h1:=(Ef (l:=l) (e:=i) (Iv.2 ⟨h0,h⟩)).1
 exact List.mem_of_getElem? h1
theorem FI {items : List An} {need : Int} {p : Option ByteArray} {c : Eh} {s : Int × Rows} (hs : AC items.length s.2) (hp : p ≠ none → s.2 ≠ []) : AC items.length (Mi items need p c s).2 ∧ (Mi items need p c s).2 ≠ [] ∧ (Mi items need p c s).2.length ≤ s.2.length + 1 ∧
  AC items.length (if p = some c.Who then s.2 else s.2 ++ [List.replicate items.length (Dw.mk 0 0)]) ∧ 0 < (if p = some c.Who then s.2 else s.2 ++ [List.replicate items.length (Dw.mk 0 0)]).length ∧ (if p = some c.Who then s.2 else s.2 ++ [List.replicate items.length (Dw.mk 0 0)]).length ≤ s.2.length + 1:=by
 have hA : AC items.length (if p = some c.Who then s.2 else s.2 ++ [List.replicate items.length (Dw.mk 0 0)]):=by
  split
  ·exact hs
  ·intro row hr
   rcases List.mem_append.1 hr with hr | hr
   ·exact hs row hr
   ·rw [List.mem_singleton] at hr; subst hr; simp
 have hL : 0 < (if p = some c.Who then s.2 else s.2 ++ [List.replicate items.length (Dw.mk 0 0)]).length:=by
  split
  ·rename_i h
   exact List.length_pos_iff.2 (hp (by rw [h]; simp))
  ·simp
 have hM : (if p = some c.Who then s.2 else s.2 ++ [List.replicate items.length (Dw.mk 0 0)]).length ≤ s.2.length + 1:=by
  split <;> simp
 unfold Mi
 simp only
 generalize (if p = some c.Who then s.2 else s.2 ++ [List.replicate items.length (Dw.mk 0 0)]) = x3 at *
 refine ⟨fun row hr=>?_,?_,by rw [List.length_set]; exact hM,hA,hL,hM⟩
 ·rcases List.mem_or_eq_of_mem_set hr with hr | rfl
  ·exact hA row hr
  ·rw [List.length_set]
   exact hA _ (CY (by omega) (by omega))
 ·intro e
  have:=congrArg List.length e
  simp only [List.length_set,List.length_nil] at this
  omega
theorem new_l {items : List An} {l : List Eh} {need : Int} (hi : items.length ≤ 1000) (hl : l.length ≤ 2000) (hk : ∀ c ∈ l,0 ≤ Ea items c.Item ∧ Ea items c.Item < (items.length : Int)) (j : Int → Rows → Option (Int × Rows)) :
  ∀ (ys dn : List Eh) (p : Option ByteArray) (s : Int × Rows),l = dn ++ ys → ((dn = [] ∧ p = none) ∨ ∃ d q,dn = d ++ [q] ∧ p = some q.Who) → AC items.length s.2 → (p ≠ none → s.2 ≠ []) → s.2.length ≤ dn.length →
   Fx items l need j ys dn.length s.1 s.2 = j (Ol items need p ys s).1 (Ol items need p ys s).2 ∧ AC items.length (Ol items need p ys s).2 ∧ (Ol items need p ys s).2.length ≤ dn.length + ys.length
 | [],dn,p,s,_,_,hs,_,hn=>⟨rfl,hs,by simpa [Ol] using hn⟩
 | y :: ys,dn,p,s,e,hp,hs,hq,hn=>by
  have hlen : l.length = dn.length + (ys.length + 1):=by rw [e]; simp
  obtain ⟨k0,k1⟩:=hk y (by rw [e]; simp)
  obtain ⟨g1,g2,g3,g4,g5,g6⟩:=FI (need:=need) (c:=y) hs hq
  obtain ⟨r1,r2,r3⟩:=new_l hi hl hk j ys (dn ++ [y]) (some y.Who) (Mi items need p y s) (by rw [e]; simp) (.inr ⟨dn,y,rfl,rfl⟩) g1 (fun _=>g2) (by rw [List.length_append,List.length_singleton]; omega)
  rw [List.length_append,List.length_singleton] at r1 r3
  refine ⟨?_,r2,by rw [Ol]; simp only [List.length_cons]; omega⟩
  rw [Fx,Ol,← r1]
  simp only [Lz]
  have last : ∀ x3 : Rows,AC items.length x3 → 0 < x3.length → x3.length ≤ 3000 → x3 = (if p = some y.Who then s.2 else s.2 ++ [List.replicate items.length (Dw.mk 0 0)]) →
    (Chk (inB (W ((x3.length : Int) - 1)) x3.length) (Chk (inB (Ea items y.Item) (nth x3 (W ((x3.length : Int) - 1))).length) (
     if decide ((nth (nth x3 (W ((x3.length : Int) - 1))) (Ea items y.Item)).last_ = 0) then
      Fx items l need j ys (dn.length + 1) s.1 (x3.set (W ((x3.length : Int) - 1)).toNat ((nth x3 (W ((x3.length : Int) - 1))).set (Ea items y.Item).toNat (Dw.mk (if decide ((nth (nth x3 (W ((x3.length : Int) - 1))) (Ea items y.Item)).last_ = 0) then y.Heat else (nth (nth x3 (W ((x3.length : Int) - 1))) (Ea items y.Item)).first_) y.Heat)))
     else Chk (inB (Ea items y.Item) items.length) (
      if decide ((W ((W ((W ((W (y.Heat - (nth (nth x3 (W ((x3.length : Int) - 1))) (Ea items y.Item)).last_)) - 1)) * (nth items (Ea items y.Item)).Long)) + (W ((W (y.Heat - (nth (nth x3 (W ((x3.length : Int) - 1))) (Ea items y.Item)).last_)) * (nth items (Ea items y.Item)).Gap)))) < need) then
       Fx items l need j ys (dn.length + 1) (W (s.1 + 1)) (x3.set (W ((x3.length : Int) - 1)).toNat ((nth x3 (W ((x3.length : Int) - 1))).set (Ea items y.Item).toNat (Dw.mk (if decide ((nth (nth x3 (W ((x3.length : Int) - 1))) (Ea items y.Item)).last_ = 0) then y.Heat else (nth (nth x3 (W ((x3.length : Int) - 1))) (Ea items y.Item)).first_) y.Heat)))
      else Fx items l need j ys (dn.length + 1) s.1 (x3.set (W ((x3.length : Int) - 1)).toNat ((nth x3 (W ((x3.length : Int) - 1))).set (Ea items y.Item).toNat (Dw.mk (if decide ((nth (nth x3 (W ((x3.length : Int) - 1))) (Ea items y.Item)).last_ = 0) then y.Heat else (nth (nth x3 (W ((x3.length : Int) - 1))) (Ea items y.Item)).first_) y.Heat)))))))
    = Fx items l need j ys (dn.length + 1) (Mi items need p y s).1 (Mi items need p y s).2:=by
   intro x3 hx hx0 hx1 hx2
   have hw : W ((x3.length : Int) - 1) = (x3.length : Int) - 1:=Ks (by omega) (by omega)
   have ht : ((x3.length : Int) - 1).toNat = x3.length - 1:=by omega
   unfold Mi
   simp only
   rw [← hx2,hw,Li (Iv.2 (by omega)),Li (Iv.2 (by rw [hx _ (CY (by omega) (by omega))]; omega)),ht]
   by_cases c1 : (nth (nth x3 ((x3.length : Int) - 1)) (Ea items y.Item)).last_ = 0
   ·simp only [c1,decide_true,if_true]
   ·simp only [c1,decide_false,Bool.false_eq_true,if_false]
    rw [Li (Iv.2 (by omega))]
    by_cases c2 : (W ((W ((W ((W (y.Heat - (nth (nth x3 ((x3.length : Int) - 1)) (Ea items y.Item)).last_)) - 1)) * (nth items (Ea items y.Item)).Long)) + (W ((W (y.Heat - (nth (nth x3 ((x3.length : Int) - 1)) (Ea items y.Item)).last_)) * (nth items (Ea items y.Item)).Gap)))) < need
    ·rw [if_pos (decide_eq_true c2),if_pos c2]
    ·rw [if_neg (by simpa using c2),if_neg c2]
  have yes : p ≠ some y.Who → (Chk (decide (0 ≤ (items.length : Int)) && decide ((items.length : Int) < 1073741824)) (Chk (Pj s.2.length) (
    (fun (x3 : Rows)=>Chk (inB (W ((x3.length : Int) - 1)) x3.length) (Chk (inB (Ea items y.Item) (nth x3 (W ((x3.length : Int) - 1))).length) (
     if decide ((nth (nth x3 (W ((x3.length : Int) - 1))) (Ea items y.Item)).last_ = 0) then
      Fx items l need j ys (dn.length + 1) s.1 (x3.set (W ((x3.length : Int) - 1)).toNat ((nth x3 (W ((x3.length : Int) - 1))).set (Ea items y.Item).toNat (Dw.mk (if decide ((nth (nth x3 (W ((x3.length : Int) - 1))) (Ea items y.Item)).last_ = 0) then y.Heat else (nth (nth x3 (W ((x3.length : Int) - 1))) (Ea items y.Item)).first_) y.Heat)))
     else Chk (inB (Ea items y.Item) items.length) (
      if decide ((W ((W ((W ((W (y.Heat - (nth (nth x3 (W ((x3.length : Int) - 1))) (Ea items y.Item)).last_)) - 1)) * (nth items (Ea items y.Item)).Long)) + (W ((W (y.Heat - (nth (nth x3 (W ((x3.length : Int) - 1))) (Ea items y.Item)).last_)) * (nth items (Ea items y.Item)).Gap)))) < need) then
       Fx items l need j ys (dn.length + 1) (W (s.1 + 1)) (x3.set (W ((x3.length : Int) - 1)).toNat ((nth x3 (W ((x3.length : Int) - 1))).set (Ea items y.Item).toNat (Dw.mk (if decide ((nth (nth x3 (W ((x3.length : Int) - 1))) (Ea items y.Item)).last_ = 0) then y.Heat else (nth (nth x3 (W ((x3.length : Int) - 1))) (Ea items y.Item)).first_) y.Heat)))
      else Fx items l need j ys (dn.length + 1) s.1 (x3.set (W ((x3.length : Int) - 1)).toNat ((nth x3 (W ((x3.length : Int) - 1))).set (Ea items y.Item).toNat (Dw.mk (if decide ((nth (nth x3 (W ((x3.length : Int) - 1))) (Ea items y.Item)).last_ = 0) then y.Heat else (nth (nth x3 (W ((x3.length : Int) - 1))) (Ea items y.Item)).first_) y.Heat)))))))
     (s.2 ++ [List.replicate ((items.length : Int).toNat) (Dw.mk 0 0)]))))
    = Fx items l need j ys (dn.length + 1) (Mi items need p y s).1 (Mi items need p y s).2:=fun hne=>by
   rw [Li (by simp; omega),Li (by unfold Pj; simp; omega)]
   rw [if_neg hne] at g4 g5 g6
   rw [Int.toNat_natCast]
   exact last _ g4 g5 (by omega) (by rw [if_neg hne])
  rcases hp with ⟨rfl,rfl⟩ | ⟨d,q,rfl,rfl⟩
  ·rw [if_pos (by simp),if_pos (by simp)]
   exact yes (by simp)
  ·have hdl : (d ++ [q]).length = d.length + 1:=by simp
   have hw : W (((d ++ [q]).length : Int) - 1) = (d.length : Int):=by rw [Ks (by omega) (by omega),hdl]; omega
   have hnq : nth l (d.length : Int) = q:=Pi (by rw [e]; simp)
   rw [if_neg (by simp only [decide_eq_true_eq]; omega),hw,Li (Iv.2 (by omega)),hnq]
   have hd0 : decide (((d ++ [q]).length : Int) = 0) = false:=decide_eq_false (by omega)
   rw [hd0,Bool.false_or]
   by_cases hw2 : q.Who = y.Who
   ·rw [if_neg (by simp [hw2])]
    rw [if_pos (by rw [hw2])] at g4 g5 g6
    exact last _ g4 g5 (by omega) (by rw [if_pos (by rw [hw2])])
   ·rw [if_pos (by simp [hw2])]
    exact yes (by simp [hw2])
theorem CZ {items : List An} {l : List Eh} {need : Int} (hi : items.length ≤ 1000) (hl : l.length ≤ 2000) (hk : ∀ c ∈ l,0 ≤ Ea items c.Item ∧ Ea items c.Item < (items.length : Int)) :
  Mg items l need = some (Ol items need none l (0,[])) ∧ AC items.length (Ol items need none l (0,[])).2 ∧ (Ol items need none l (0,[])).2.length ≤ l.length:=by
 obtain ⟨h1,h2,h3⟩:=new_l hi hl hk (fun x1 x2=>some (x1,x2)) l [] none (0,[]) rfl (.inl ⟨rfl,rfl⟩) (fun _ h=>by cases h) (fun h=>absurd rfl h) (Nat.le_refl _)
 refine ⟨?_,h2,by simpa using h3⟩
 unfold Mg
 rw [Lz]
 exact h1
section leaf
variable (items : List An) (need : Int)
def AD : List Int → List Int → Int → Int → List Int × Int
 | [],fr,_,en=>(fr,en)
 | k :: ks,fr,at_,_=>AD ks (fr.set k.toNat at_) (W ((W ((W (at_ + (Gg (nth items k) ((nth items k).Heats)))) + ((nth items k).Long))) + ((nth items k).Break))) (W ((W (at_ + (Gg (nth items k) ((nth items k).Heats)))) + ((nth items k).Long)))
theorem ED : ∀ (ks fr : List Int) (a e : Int),(AD items ks fr a e).1.length = fr.length
 | [],_,_,_=>rfl
 | k :: ks,fr,a,e=>by rw [AD,ED ks]; simp
def InR (n : Nat) (l : List Int) : Prop:=∀ k ∈ l,0 ≤ k ∧ k < (n : Int)
theorem JF (j : List Int → Int → Option ((List Int) × Int × Int × Bool)) : ∀ (ks : List Int) (i : Nat) (fr : List Int) (a e : Int),InR items.length ks → fr.length = items.length → Ki items j ks i fr a e = j (AD items ks fr a e).1 (AD items ks fr a e).2
 | [],_,_,_,_,_,_=>rfl
 | k :: ks,i,fr,a,e,hk,hf=>by
  obtain ⟨h0,h1⟩:=hk k (by simp)
  rw [Ki,Li (Iv.2 ⟨h0,h1⟩),Li (Iv.2 ⟨h0,by omega⟩),JF j ks (i + 1) _ _ _ (fun z hz=>hk z (by simp [hz])) (by simpa using hf)]
  rfl
def Sq (row : List Dw) (fr : List Int) : List Int → Int → Int → Int
 | [],s,_=>s
 | k :: ks,s,la=>if (nth row k).last_ = 0 then Sq row fr ks s la else
  Sq row fr ks (if 0 ≤ la ∧ W ((W ((nth fr k) + (Gg (nth items k) ((nth row k).first_)))) - la) < need then W (s + 1) else s) (W ((W ((nth fr k) + (Gg (nth items k) ((nth row k).last_)))) + ((nth items k).Long)))
theorem JG (row : List Dw) (fr : List Int) (hr : row.length = items.length) (hf : fr.length = items.length) (j : Int → Option ((List Int) × Int × Int × Bool)) : ∀ (ks : List Int) (i : Nat) (s la : Int),InR items.length ks → Kj row fr items need j ks i s la = j (Sq items need row fr ks s la)
 | [],_,_,_,_=>rfl
 | k :: ks,i,s,la,hk=>by
  obtain ⟨h0,h1⟩:=hk k (by simp)
  have ih:=fun s la=>JG row fr hr hf j ks (i + 1) s la (fun z hz=>hk z (by simp [hz]))
  have c1 : inB k row.length = true:=Iv.2 ⟨h0,by omega⟩
  have c2 : inB k fr.length = true:=Iv.2 ⟨h0,by omega⟩
  have c3 : inB k items.length = true:=Iv.2 ⟨h0,h1⟩
  rw [Kj,Sq]
  simp only [Lz,Li c1,Li c2,Li c3,ih]
  by_cases hl : (nth row k).last_ = 0
  ·rw [if_pos (decide_eq_true hl),if_pos hl]
  ·rw [if_neg (by simpa using hl),if_neg hl]
   by_cases hc : 0 ≤ la ∧ W ((W ((nth fr k) + (Gg (nth items k) ((nth row k).first_)))) - la) < need
   ·rw [if_pos (by simpa using hc),if_pos hc]
   ·rw [if_neg (by simpa using hc),if_neg hc]
def BE (fr now : List Int) : Rows → Int → Int
 | [],s=>s
 | row :: rows,s=>BE fr now rows (Sq items need row fr now s (-1))
theorem JH (fr now : List Int) (hf : fr.length = items.length) (hn : InR items.length now) (j : Int → Option ((List Int) × Int × Int × Bool)) : ∀ (rows : Rows) (i : Nat) (s : Int),AC items.length rows → Kk fr items need now j rows i s = j (BE items need fr now rows s)
 | [],_,_,_=>rfl
 | row :: rows,i,s,h=>by
  rw [Kk,Lz,JG items need row fr (h row (by simp)) hf _ now 0 s (-1) hn,JH fr now hf hn j rows (i + 1) _ (fun z hz=>h z (by simp [hz]))]
  rfl
def Sr (within : Int) (rows : Rows) (now : List Int) : Int × Int :=
 let fe:=AD items now (List.replicate items.length 0) 0 0
 (BE items need fe.1 now rows within,fe.2)
end leaf
abbrev Acc:=(List Int) × Int × Int × Bool
def Vv (a : Acc) (now : List Int) (v : Int × Int) : Acc:=if a.2.2.2 = false ∨ v.1 < a.2.1 ∨ (v.1 = a.2.1 ∧ v.2 < a.2.2.1) then (now,v.1,v.2,true) else a
def AE (f : List Int → List Int → Acc → Acc) (now rest : List Int) : List Int → Nat → Acc → Acc
 | [],_,a=>a
 | y :: ys,i,a=>AE f now rest ys (i + 1) (f (now ++ [y]) (rest.eraseIdx i) a)
def Vw (leaf : List Int → Int × Int) : Nat → List Int → List Int → Acc → Acc
 | 0,_,_,a=>a
 | m + 1,now,rest,a=>if rest = [] then Vv a now (leaf now) else AE (Vw leaf m) now rest rest 0 a
theorem FJ {a b : List Int} (h : a.length + b.length ≤ 1000000) : Mh [a,b] = some (a ++ b):=by
 unfold Mh
 rw [Lz,Hg,Ks (by omega) (by omega),if_neg (by simp only [decide_eq_true_eq]; omega),Hg,Ks (by omega) (by omega),if_neg (by simp only [decide_eq_true_eq]; omega),Hg]
 unfold Pg
 rw [Li (by simp; omega),Option.bind_some,Lz,Hh,Li (by simp; omega),Hh,Li (by simp; omega),Hh]
 simp
theorem HV (l : List Int) (i : Nat) (h : i < l.length) : cut l 0 (i : Int) ++ cut l ((i : Int) + 1) (l.length : Int) = l.eraseIdx i:=by
 unfold cut
 rw [show (0 : Int).toNat = 0 from rfl,List.drop_zero,Int.toNat_natCast,Int.toNat_natCast,List.take_length,show ((i : Int) + 1).toNat = i + 1 by omega,List.eraseIdx_eq_take_drop_succ]
theorem EE {n : Nat} {l : List Int} (h : InR n l) (i : Nat) : InR n (l.eraseIdx i):=fun k hk=>h k (List.mem_of_mem_eraseIdx hk)
theorem HW (a : Acc) (now : List Int) (s e : Int) : ((if !a.2.2.2 then (if true then some (now,s,e,true) else some (a.1,a.2.1,a.2.2.1,a.2.2.2)) else (if decide ((Mk [(Ga s a.2.1),(Ga e a.2.2.1)]) < 0) then some (now,s,e,true) else some (a.1,a.2.1,a.2.2.1,a.2.2.2))) : Option Acc) = some (Vv a now (s,e)):=by
 unfold Vv
 obtain ⟨b,sh,en,f⟩:=a
 cases f with
 | false=>simp
 | true =>
  simp only [Bool.not_true,Bool.false_eq_true,if_false,orc2,JE]
  by_cases h1 : s < sh
  ·simp [h1]
  ·by_cases h2 : sh < s
   ·have : ¬ s = sh:=by omega
    simp [h1,h2,this]
   ·have h3 : s = sh:=by omega
    by_cases h4 : e < en
    ·simp [h3,h4]
    ·by_cases h5 : en < e
     ·simp [h4,h5,h3]
     ·simp [h4,h5,h3]
theorem JI {items : List An} {within need : Int} {rows : Rows} (hi : items.length ≤ 1000) (hr : AC items.length rows) : ∀ (m : Nat) (now rest : List Int) (a : Acc),rest.length < m → InR items.length now → InR items.length rest → now.length + rest.length ≤ 1000 →
  Lx m items within rows need a.1 a.2.1 a.2.2.1 a.2.2.2 now rest = some (Vw (Sr items need within rows) m now rest a)
 | 0,_,_,_,h,_,_,_=>absurd h (by omega)
 | m + 1,now,rest,a,hm,hn,hre,hlen=>by
  rw [Lx]
  unfold Rf
  rw [Vw]
  by_cases h0 : rest = []
  ·subst h0
   rw [if_neg (by simp),if_pos rfl,Li (by simp; omega)]
   simp only [Lz,Int.toNat_natCast]
   rw [JF items _ now 0 _ 0 0 hn (by simp),JH items need _ now (by rw [ED]; simp) hn _ rows 0 within hr]
   exact HW a now _ _
  ·rw [if_neg h0,if_pos (by have:=List.length_pos_iff.2 h0; simp only [decide_eq_true_eq]; omega)]
   simp only [Lz]
   have loop : ∀ (ys dn : List Int) (b : Acc),rest = dn ++ ys → Kh now rest (Lx m) items within rows need (fun x1 x2 x3 x4=>some (x4,x1,x2,x3)) ys dn.length b.2.1 b.2.2.1 b.2.2.2 b.1 = some (AE (Vw (Sr items need within rows) m) now rest ys dn.length b):=by
    intro ys
    induction ys with
    | nil=>intro dn b _; rfl
    | cons y ys ih =>
     intro dn b e
     have hl : rest.length = dn.length + (ys.length + 1):=by rw [e]; simp
     have hel:=List.length_eraseIdx_of_lt (l:=rest) (i:=dn.length) (by omega)
     rw [Kh]
     simp only [Lz]
     unfold Oo
     rw [Li (by simp; omega),Option.bind_some,List.nil_append,Li (by unfold Pj; simp; omega),Li (Pq.2 (by omega)),Ks (by omega) (by omega),Li (Pq.2 (by omega)),FJ (by simp [cut]; omega),Option.bind_some,HV rest dn.length (by omega)]
     rw [JI hi hr m (now ++ [y]) (rest.eraseIdx dn.length) b (by omega) (fun k hk=>by
      rcases List.mem_append.1 hk with hk | hk
      ·exact hn k hk
      ·rw [List.mem_singleton] at hk; subst hk; exact hre k (by rw [e]; simp)) (EE hre _) (by rw [List.length_append,List.length_singleton]; omega),Option.bind_some]
     have:=ih (dn ++ [y]) (Vw (Sr items need within rows) m (now ++ [y]) (rest.eraseIdx dn.length) b) (by rw [e]; simp)
     rw [List.length_append,List.length_singleton] at this
     rw [AE]
     exact this
   exact loop rest [] a rfl
theorem GU {n : Nat} (leaf : List Int → Int × Int) : ∀ (m : Nat) (now rest : List Int) (a : Acc),InR n now → InR n rest → InR n a.1 → InR n (Vw leaf m now rest a).1
 | 0,_,_,_,_,_,h=>h
 | m + 1,now,rest,a,hn,hr,ha=>by
  rw [Vw]
  split
  ·unfold Vv
   split
   ·exact hn
   ·exact ha
  ·have loop : ∀ (ys dn : List Int) (b : Acc),rest = dn ++ ys → InR n b.1 → InR n (AE (Vw leaf m) now rest ys dn.length b).1:=by
    intro ys
    induction ys with
    | nil=>intro dn b _ hb; exact hb
    | cons y ys ih =>
     intro dn b e hb
     rw [AE]
     have h1:=GU leaf m (now ++ [y]) (rest.eraseIdx dn.length) b (fun k hk=>by
      rcases List.mem_append.1 hk with hk | hk
      ·exact hn k hk
      ·rw [List.mem_singleton] at hk; subst hk; exact hr k (by rw [e]; simp)) (EE hr _) hb
     have:=ih (dn ++ [y]) _ (by rw [e]; simp) h1
     rw [List.length_append,List.length_singleton] at this
     exact this
   exact loop rest [] a rfl ha
end Go.Proofs.YtombbefepcipcaaGreatDoor
namespace Go.Proofs.YtombbefepcipcaaGreatDoor
open Go
section
variable {α β R : Type}
def sel (P : α → Nat → Bool) (f : α → Nat → β) : List α → Nat → List β
 | [],_=>[]
 | y :: ys,i=>if P y i then f y i :: sel P f ys (i + 1) else sel P f ys (i + 1)
theorem BF (P : α → Bool) (f : α → β) : ∀ (l : List α) (i : Nat),sel (fun y _=>P y) (fun y _=>f y) l i = (l.filter P).map f
 | [],_=>rfl
 | y :: ys,i=>by
  unfold sel
  rw [BF P f ys (i + 1),List.filter_cons]
  split <;> rfl
theorem JJ (P : α → Nat → Bool) (f : α → Nat → β) (j : List β → Option R) (F : List α → Nat → List β → Option R) (h0 : ∀ i x,F [] i x = j x) (l : List α) (hl : l.length < 1073741824) (c0 : Nat) (hc0 : c0 + l.length < 1073741824)
  (h1 : ∀ (dn : List α) (y : α) (ys : List α) (x : List β),l = dn ++ y :: ys → x.length ≤ c0 + dn.length → F (y :: ys) dn.length x = if P y dn.length then Chk (Pj x.length) (F ys (dn.length + 1) (x ++ [f y dn.length])) else F ys (dn.length + 1) x) :
  ∀ (ys dn : List α) (x : List β),l = dn ++ ys → x.length ≤ c0 + dn.length → F ys dn.length x = j (x ++ sel P f ys dn.length)
 | [],dn,x,_,_=>by rw [h0]; simp [sel]
 | y :: ys,dn,x,h,hx=>by
  have hlen : l.length = dn.length + (ys.length + 1):=by rw [h]; simp
  have h' : l = (dn ++ [y]) ++ ys:=by rw [h]; simp
  have e : (dn ++ [y]).length = dn.length + 1:=by simp
  rw [h1 dn y ys x h hx]
  unfold sel
  cases hp : P y dn.length with
  | true =>
   simp only [if_true]
   rw [Li (by unfold Pj; simp; omega)]
   have ih:=JJ P f j F h0 l hl c0 hc0 h1 ys (dn ++ [y]) (x ++ [f y dn.length]) h' (by rw [e]; simp; omega)
   rw [e] at ih
   rw [ih]
   simp
  | false =>
   simp only [Bool.false_eq_true,if_false]
   have ih:=JJ P f j F h0 l hl c0 hc0 h1 ys (dn ++ [y]) x h' (by rw [e]; omega)
   rw [e] at ih
   exact ih
theorem app_0 (P : α → Bool) (f : α → β) (j : List β → Option R) (F : List α → Nat → List β → Option R) (h0 : ∀ i x,F [] i x = j x) (l : List α) (hl : l.length < 1073741824)
  (h1 : ∀ (y : α) (ys : List α) (i : Nat) (x : List β),F (y :: ys) i x = if P y then Chk (Pj x.length) (F ys (i + 1) (x ++ [f y])) else F ys (i + 1) x) : F l 0 [] = j ((l.filter P).map f):=by
 have:=JJ (fun y _=>P y) (fun y _=>f y) j F h0 l hl 0 (by omega) (fun dn y ys x _ _=>h1 y ys dn.length x) l [] [] rfl (by simp)
 rw [List.length_nil,BF] at this
 exact this
variable [DecidableEq α] [Inhabited α]
end
section
variable {α R : Type} [Inhabited α]
end
end Go.Proofs.YtombbefepcipcaaGreatDoor
namespace Go.Proofs.YtombbefepcipcaaGreatDoor
open Go
theorem Zp (y : An) (hy : Kr y) : ∀ (k : Nat) (h t : Int) (s : Dx),s ∈ hs y k h t → s.Item = y.Key ∧ h ≤ s.Heat ∧ t ≤ s.Time.From ∧ s.Time.From < Qf y k t
 | 0,_,_,_,hm=>by cases hm
 | k + 1,h,t,s,hm=>by
  have hy':=hy
  unfold Kr at hy'
  rw [hs] at hm
  rcases List.mem_cons.1 hm with rfl | hm
  ·refine ⟨rfl,Int.le_refl _,Int.le_refl _,?_⟩
   cases k with
   | zero=>simp only [Qf]; omega
   | succ k =>
    have:=Oj y hy (k + 1) (t + y.Long + y.Gap)
    simp only [Qf]
    omega
  ·obtain ⟨h1,h2,h3,h4⟩:=Zp y hy k (h + 1) (t + y.Long + y.Gap) s hm
   refine ⟨h1,by omega,by omega,?_⟩
   cases k with
   | zero=>cases hm
   | succ k=>exact h4
theorem DA (y : An) (hy : Kr y) : ∀ (k : Nat) (h t : Int),(hs y k h t).Pairwise fun a b=>a.Time.From < b.Time.From ∧ a.Heat < b.Heat
 | 0,_,_=>List.Pairwise.nil
 | k + 1,h,t=>by
  have hy':=hy
  unfold Kr at hy'
  rw [hs]
  refine List.pairwise_cons.2 ⟨fun s hm=>?_,DA y hy k _ _⟩
  obtain ⟨_,h2,h3,_⟩:=Zp y hy k (h + 1) (t + y.Long + y.Gap) s hm
  exact ⟨by show t < _; omega,by show h < _; omega⟩
theorem FK : ∀ (l : List An) (t : Int) (s : Dx),(∀ x ∈ l,Kr x) → s ∈ tt l t → t ≤ s.Time.From ∧ ∃ y ∈ l,s.Item = y.Key
 | [],_,_,_,hm=>by cases hm
 | y :: ys,t,s,hg,hm=>by
  have hy:=hg y (by simp)
  have hy':=hy
  unfold Kr at hy'
  rw [tt] at hm
  rcases List.mem_append.1 hm with hm | hm
  ·obtain ⟨h1,_,h3,_⟩:=Zp y hy _ _ _ s hm
   exact ⟨h3,y,by simp,h1⟩
  ·obtain ⟨h1,z,hz,h2⟩:=FK ys _ s (fun x hx=>hg x (List.mem_cons_of_mem _ hx)) hm
   have:=Oj y hy y.Heats.toNat t
   exact ⟨by omega,z,List.mem_cons_of_mem _ hz,h2⟩
theorem GV : ∀ (l : List An) (t : Int),(∀ x ∈ l,Kr x) → (tt l t).Pairwise fun a b=>a.Time.From < b.Time.From
 | [],_,_=>List.Pairwise.nil
 | y :: ys,t,hg=>by
  have hy:=hg y (by simp)
  have hy':=hy
  unfold Kr at hy'
  have hgs : ∀ x ∈ ys,Kr x:=fun x hx=>hg x (List.mem_cons_of_mem _ hx)
  rw [tt]
  refine List.pairwise_append.2 ⟨(DA y hy _ _ _).imp_of_mem fun _ _ h=>h.1,GV ys _ hgs,fun a ha b hb=>?_⟩
  obtain ⟨_,_,_,h4⟩:=Zp y hy _ _ _ a ha
  obtain ⟨h1,_⟩:=FK ys _ b hgs hb
  omega
theorem JK : ∀ (l : List An) (t : Int),(∀ x ∈ l,Kr x) → (l.Pairwise fun a b=>a.Key ≠ b.Key) → (tt l t).Pairwise fun a b=>a.Item = b.Item → a.Heat ≠ b.Heat
 | [],_,_,_=>List.Pairwise.nil
 | y :: ys,t,hg,hd=>by
  have hy:=hg y (by simp)
  have hgs : ∀ x ∈ ys,Kr x:=fun x hx=>hg x (List.mem_cons_of_mem _ hx)
  rw [List.pairwise_cons] at hd
  rw [tt]
  refine List.pairwise_append.2 ⟨(DA y hy _ _ _).imp_of_mem fun _ _ h _=>by have:=h.2; omega,JK ys _ hgs hd.2,fun a ha b hb he=>?_⟩
  obtain ⟨h1,_⟩:=Zp y hy _ _ _ a ha
  obtain ⟨_,z,hz,h2⟩:=FK ys _ b hgs hb
  exact absurd (h1.symm.trans (he.trans h2)) (hd.1 z hz)
theorem GW (key : ByteArray) (h : Int) : ∀ (l : List Dx) (k : Nat),atN key h l = some k → ∃ s ∈ l,s.Item = key ∧ s.Heat = h
 | [],_,e=>by cases e
 | s :: l,k,e=>by
  rw [atN] at e
  split at e
  ·rename_i hc
   exact ⟨s,by simp,hc⟩
  ·cases hq : atN key h l with
   | none=>rw [hq] at e; cases e
   | some q =>
    obtain ⟨z,hz,h1⟩:=GW key h l q hq
    exact ⟨z,List.mem_cons_of_mem _ hz,h1⟩
theorem tt_has {items : List An} {c : Eh} {k : Nat} {y : An} (h : CV items c k y) (t : Int) : ∃ s ∈ tt items t,s.Item = c.Item ∧ s.Heat = c.Heat :=
 GW _ _ _ _ (tt_at items t c.Item c.Heat k y h.ix h.get h.h1 h.h2)
theorem EF (z : Dx) (it : ByteArray) (hh : Int) : ∀ (ys : List Dx) (i : Nat) (m : List (Ed × Dx)),(∀ s ∈ ys,it = s.Item → hh ≠ s.Heat) → Kw (Hv (fun x=>x) ys i m) ⟨it,hh⟩ z = Kw m ⟨it,hh⟩ z
 | [],_,_,_=>rfl
 | y :: ys,i,m,h=>by
  rw [Hv,EF z it hh ys (i + 1) _ fun s hs=>h s (List.mem_cons_of_mem _ hs),Xn,if_neg]
  intro e
  rw [Ed.mk.injEq] at e
  exact h y (by simp) e.1 e.2
theorem BG (z : Dx) : ∀ (T : List Dx) (i : Nat) (m : List (Ed × Dx)) (s : Dx),(T.Pairwise fun a b=>a.Item = b.Item → a.Heat ≠ b.Heat) → s ∈ T → Kw (Hv (fun x=>x) T i m) ⟨s.Item,s.Heat⟩ z = s
 | [],_,_,_,_,hm=>by cases hm
 | y :: ys,i,m,s,hp,hm=>by
  rw [List.pairwise_cons] at hp
  rw [Hv]
  rcases List.mem_cons.1 hm with rfl | hm
  ·rw [EF z _ _ ys (i + 1) _ fun b hb e=>hp.1 b hb e,Xn,if_pos rfl]
  ·exact BG z ys (i + 1) _ s hp.2 hm
theorem Xo {a b : Eh} : cC a b < 0 ↔ cB a.Who b.Who < 0 ∨ (a.Who = b.Who ∧ (cB a.Item b.Item < 0 ∨ (a.Item = b.Item ∧ a.Heat < b.Heat))):=by
 unfold cC
 by_cases h1 : cB a.Who b.Who = 0
 ·have e1:=Yr h1
  rw [if_neg (by simpa using h1)]
  by_cases h2 : cB a.Item b.Item = 0
  ·have e2:=Yr h2
   rw [if_neg (by simpa using h2)]
   by_cases h3 : a.Heat < b.Heat
   ·rw [if_pos h3]
    exact ⟨fun _=>.inr ⟨e1,.inr ⟨e2,h3⟩⟩,fun _=>by decide⟩
   ·rw [if_neg h3]
    refine ⟨fun h=>?_,fun h=>?_⟩
    ·split at h <;> cases h
    ·rcases h with h | ⟨_,h | ⟨_,h⟩⟩ <;> omega
  ·rw [if_pos h2]
   refine ⟨fun h=>.inr ⟨e1,.inl h⟩,fun h=>?_⟩
   rcases h with h | ⟨_,h | ⟨h,_⟩⟩
   ·omega
   ·exact h
   ·exact absurd (cB_eq.2 h) h2
 ·rw [if_pos h1]
  refine ⟨.inl,fun h=>?_⟩
  rcases h with h | ⟨h,_⟩
  ·exact h
  ·exact absurd (cB_eq.2 h) h1
theorem JL {a b c : Eh} (h1 : cC a b < 0) (h2 : cC b c < 0) : cC a c < 0:=by
 rw [Xo] at *
 rcases h1 with h1 | ⟨e1,h1⟩
 ·rcases h2 with h2 | ⟨e2,_⟩
  ·exact .inl (Uj h1 h2)
  ·rw [← e2]; exact .inl h1
 ·rcases h2 with h2 | ⟨e2,h2⟩
  ·rw [e1]; exact .inl h2
  ·refine .inr ⟨e1.trans e2,?_⟩
   rcases h1 with h1 | ⟨i1,h1⟩
   ·rcases h2 with h2 | ⟨i2,_⟩
    ·exact .inl (Uj h1 h2)
    ·rw [← i2]; exact .inl h1
   ·rcases h2 with h2 | ⟨i2,h2⟩
    ·rw [i1]; exact .inl h2
    ·exact .inr ⟨i1.trans i2,by omega⟩
theorem cC_irr (a : Eh) : ¬ cC a a < 0:=by
 rw [Xo,Th,Th]
 intro h
 rcases h with h | ⟨_,h | ⟨_,h⟩⟩ <;> omega
theorem GX {l : List Eh} (h : FH l) : ∀ (ys dn : List Eh) (y : Eh),l = dn ++ y :: ys → ∀ z ∈ ys,cC y z < 0
 | [],_,_,_,z,hz=>by cases hz
 | x :: ys,dn,y,e,z,hz=>by
  have h1:=h dn y x ys e
  rcases List.mem_cons.1 hz with rfl | hz
  ·exact h1
  ·exact JL h1 (GX h ys (dn ++ [y]) x (by rw [e]; simp) z hz)
theorem Zq {l : List Eh} (h : FH l) : l.Pairwise fun a b=>cC a b < 0:=by
 have : ∀ (ys dn : List Eh),l = dn ++ ys → ys.Pairwise fun a b=>cC a b < 0:=by
  intro ys
  induction ys with
  | nil=>intro _ _; exact List.Pairwise.nil
  | cons y ys ih =>
   intro dn e
   exact List.pairwise_cons.2 ⟨GX h ys dn y e,ih (dn ++ [y]) (by rw [e]; simp)⟩
 exact this l [] rfl
def ltS (x y : Dx) : Bool:=decide (Jo x y < 0)
theorem DB (x y : Dx) : ltS x y = decide (x.Time.From < y.Time.From):=by
 unfold ltS Jo
 rw [JE]
 by_cases h1 : x.Time.From < y.Time.From
 ·simp [h1]
 ·by_cases h2 : y.Time.From < x.Time.From <;> simp [h1,h2]
theorem len13 : ∀ n : Fin 13,(Rq (IntKind.wrap .u64 (n.val : Int))).isSome = true:=by decide +kernel
theorem HX (l : List Dx) (hl : l.length ≤ 12) : Gl l 0 (l.length : Int) = some (Jv ltS l):=by
 unfold Gl
 simp only [Lz]
 have hins : ∀ (k : List Dx → Option (List Dx)) (rp : List Dx) (x : Dx) (post : List Dx),((rp ++ x :: post).length : Int) = (l.length : Int) → (∀ y,y ∈ rp ∨ y = x ∨ y ∈ post → y ∈ (rp ++ x :: post)) →
   Em 0 k (((rp.length : Int) - 0).toNat + 2) (rp.reverse ++ x :: post) (rp.length : Int) = k ((Rj ltS x rp).reverse ++ post):=by
  intro k rp x post h1 _
  exact GT (fun x y k=>k (ltS x y)) ltS k (Em 0 k) (fun _ _ _=>rfl) rp x post _ (by omega) (by simp at h1; omega) fun y _ k'=>rfl
 cases l with
 | nil=>rfl
 | cons x l =>
  have hw : W (0 + 1) = (([x] : List Dx).length : Int):=rfl
  rw [hw]
  exact Yt ltS (fun x=>some x) (fun k x i=>Em 0 k ((i - 0).toNat + 2) x i) (Et ((x :: l).length : Int) 0 fun x=>some x) ((x :: l).length : Int) (fun _ _ _=>rfl)
   (fun k rp x post h1 h2=>hins k rp x post h1 h2) l [x] _ (by simp only [List.length_cons,List.length_nil]; omega) (by simp only [List.length_cons,List.length_nil]; omega) (by simp only [List.length_cons,List.length_nil] at hl ⊢; omega)
theorem JM (l : List Dx) (hl : l.length ≤ 12) : Gp l = some (Jv ltS l):=by
 unfold Gp
 have h:=len13 ⟨l.length,by omega⟩
 obtain ⟨r,hr⟩:=Option.isSome_iff_exists.1 h
 simp only at hr
 rw [hr]
 simp only [Option.bind_some]
 unfold Ho
 rw [show (4611686018427387904 : Nat) = 4611686018427387903 + 1 from rfl,Fb,Ks (by omega) (by omega),if_pos (decide_eq_true (by omega)),HX l hl]
 rfl
def Pp (T : List Dx) (l : List Eh) (who : ByteArray) : List Dx:=T.filter fun s=>l.any fun c=>decide (Eh.mk who s.Item s.Heat = c)
theorem JN (items : List An) (hg : ∀ x ∈ items,Kr x) (hd : items.Pairwise fun a b=>a.Key ≠ b.Key) (l : List Eh) (hl : l.length ≤ 2000) (hcv : ∀ c ∈ l,∃ k y,CV items c k y) (hadj : FH l) (t : Int) (who : ByteArray)
  (hN : (l.filter fun c=>decide (c.Who = who)).length ≤ 12) : Ln (Jf (tt items t)) l who = some (Pp (tt items t) l who):=by
 have hk:=JK items t hg hd
 have hp:=GV items t hg
 have hsl : Jf (tt items t) = Hv (fun x=>x) (tt items t) 0 []:=rfl
 have hget : ∀ s ∈ tt items t,Kw (Jf (tt items t)) ⟨s.Item,s.Heat⟩ (Dx.mk Eo 0 (Gt.mk 0 0)) = s:=fun s hs=>by
  rw [hsl]; exact BG _ _ 0 [] s hk hs
 unfold Ln
 simp only [Lz]
 rw [app_0 (fun c : Eh=>decide (c.Who = who)) (fun c=>Kw (Jf (tt items t)) ⟨c.Item,c.Heat⟩ (Dx.mk Eo 0 (Gt.mk 0 0))) (fun x1=>Option.bind (Gp x1) fun r1=>some r1) (Jp who (Jf (tt items t)) fun x1=>Option.bind (Gp x1) fun r1=>some r1) (fun _ _=>rfl) l (by omega) (fun _ _ _ _=>rfl)]
 rw [JM _ (by rw [List.length_map]; exact hN)]
 simp only [Option.bind_some]
 congr 1
 have slot : ∀ c ∈ l,∃ s ∈ tt items t,s.Item = c.Item ∧ s.Heat = c.Heat ∧ Kw (Jf (tt items t)) ⟨c.Item,c.Heat⟩ (Dx.mk Eo 0 (Gt.mk 0 0)) = s:=fun c hc=>by
  obtain ⟨k,y,h⟩:=hcv c hc
  obtain ⟨s,h1,h2,h3⟩:=tt_has h t
  exact ⟨s,h1,h2,h3,by rw [← h2,← h3]; exact hget s h1⟩
 have part : ∀ a ∈ tt items t,∀ b ∈ tt items t,a ≠ b → a.Time.From < b.Time.From ∨ b.Time.From < a.Time.From:=by
  intro a ha b hb hne
  obtain ⟨i,hi⟩:=List.getElem?_of_mem ha
  obtain ⟨j,hj⟩:=List.getElem?_of_mem hb
  obtain ⟨i1,i2⟩:=List.getElem?_eq_some_iff.1 hi
  obtain ⟨j1,j2⟩:=List.getElem?_eq_some_iff.1 hj
  rw [List.pairwise_iff_getElem] at hp
  rcases Nat.lt_trichotomy i j with h | h | h
  ·have:=hp i j i1 j1 h; rw [i2,j2] at this; exact .inl this
  ·subst h; rw [i2] at j2; exact absurd j2 hne
  ·have:=hp j i j1 i1 h; rw [i2,j2] at this; exact .inr this
 refine JD (fun x=>by rw [DB]; simp) (fun x y z h1 h2=>by rw [DB] at *; simp at *; omega) _ _ ?_ ?_ ?_
 ·rw [List.pairwise_map]
  refine List.Pairwise.imp_of_mem (fun {a b} ha hb h=>?_) ((Zq hadj).filter _)
  intro h0
  obtain ⟨ha1,ha2⟩:=List.mem_filter.1 ha
  obtain ⟨hb1,hb2⟩:=List.mem_filter.1 hb
  obtain ⟨s,s1,s2,s3,s4⟩:=slot a ha1
  obtain ⟨r,r1,r2,r3,r4⟩:=slot b hb1
  rw [s4,r4] at h0 ⊢
  rw [DB] at h0 ⊢
  have hne : s ≠ r:=by
   rintro rfl
   have hab : a = b:=by
    have e1:=of_decide_eq_true ha2
    have e2:=of_decide_eq_true hb2
    cases a; cases b
    simp only [Eh.mk.injEq] at *
    exact ⟨e1.trans e2.symm,s2.symm.trans r2,s3.symm.trans r3⟩
   subst hab
   exact cC_irr a h
  rcases part s s1 r r1 hne with h2 | h2
  ·exact decide_eq_true h2
  ·rw [decide_eq_true h2] at h0; cases h0
 ·unfold Pp
  refine List.Pairwise.imp_of_mem (fun {a b} _ _ h=>by rw [DB]; exact decide_eq_true h) (hp.filter _)
 ·intro x
  unfold Pp
  rw [List.mem_map,List.mem_filter,List.any_eq_true]
  constructor
  ·rintro ⟨c,hc,rfl⟩
   obtain ⟨hc1,hc2⟩:=List.mem_filter.1 hc
   obtain ⟨s,s1,s2,s3,s4⟩:=slot c hc1
   rw [s4]
   refine ⟨s1,c,hc1,decide_eq_true ?_⟩
   have e1:=of_decide_eq_true hc2
   rw [s2,s3,← e1]
  ·rintro ⟨hx,c,hc,h1⟩
   have h1:=of_decide_eq_true h1
   refine ⟨c,List.mem_filter.2 ⟨hc,?_⟩,?_⟩
   ·rw [← h1]; exact decide_eq_true rfl
   ·rw [← h1]; exact hget x hx
end Go.Proofs.YtombbefepcipcaaGreatDoor
