/- How many items fit. No program stands here but its twins. -/
import Derived.Test.YtcgffkkagmkhkaaGreatDoorTw
namespace Go.Proofs.YtcgffkkagmkhkaaGreatDoor
open Go

theorem Nt {R : Type} {c : Bool} {k : Option R} (h : c = true) : Chk c k = k:=by simp [Chk,h]
theorem Re {κ R : Type} (K : κ) (f : κ → R) : Ha K f = f K:=rfl
theorem Yp {x n : Int} (hn : 0 < n) : -n < Int.tmod x n ∧ Int.tmod x n < n:=by
 have h1:=Int.tmod_lt_of_pos x hn
 have h2:=Int.tmod_lt_of_pos (-x) hn
 rw [Int.neg_tmod] at h2
 omega
theorem AB (x n : Int) (hn : n ≤ 4611686018427387904) : ∃ v,Mu x n = some v ∧ 0 ≤ v ∧ (v < n ∨ (n < 1 ∧ v = 0)):=by
 unfold Mu
 by_cases h : n < 1
 ·exact ⟨0,by simp [h],Int.le_refl _,.inr ⟨h,rfl⟩⟩
 ·have h1:=Yp (x:=x) (n:=n) (by omega)
  have h0 : ¬ n = 0:=by omega
  simp only [decide_eq_true_eq,h,if_false,Ha]
  rw [Nt (by simp [h0])]
  by_cases h2 : Int.tmod x n < 0
  ·rw [if_pos h2,Oq (by omega) (by omega)]
   exact ⟨_,rfl,by omega,.inl (by omega)⟩
  ·rw [if_neg h2]
   exact ⟨_,rfl,by omega,.inl (by omega)⟩
theorem Vx (L : List Int) (a n : Int) (ha : 0 ≤ a) (ha' : a ≤ 4611686018427387904) (hL : (L.length : Int) ≤ 9223372036854775807) (hn : n ≤ 4611686018427387904) :
  ∃ v,Li L a n = some (v,a + 1) ∧ 0 ≤ v ∧ (v < n ∨ (n < 1 ∧ v = 0)):=by
 have w1 : W (a + 1) = a + 1:=Oq (by omega) (by omega)
 have w2 : W (a + 1 - 1) = a:=by rw [show a + 1 - 1 = a by omega]; exact Oq (by omega) (by omega)
 unfold Li
 rw [w1,w2]
 by_cases h : (L.length : Int) = 0
 ·obtain ⟨v,h1,h2,h3⟩:=AB (W ((a + 1) * 7919)) n hn
  exact ⟨v,by simp [h,h1],h2,h3⟩
 ·have h0 : 0 < (L.length : Int):=by omega
  have hm:=Yp (x:=a) h0
  have hm0 : 0 ≤ Int.tmod a (L.length : Int):=Int.tmod_nonneg _ ha
  have hc : inB (Int.tmod a (L.length : Int)) L.length = true:=Ja.2 ⟨hm0,hm.2⟩
  obtain ⟨v1,e1,_,_⟩:=AB (nth L (Int.tmod a (L.length : Int))) 1073741824 (by omega)
  simp only [decide_eq_true_eq,h,if_false]
  rw [Nt (by simp),Nt (by simp),Nt hc,e1]
  simp only [Option.bind_some]
  obtain ⟨v2,e2,g1,g2⟩:=AB (W (v1 + W (W (Int.tdiv a (L.length : Int)) * W (7919 + Int.tmod a (L.length : Int))))) n hn
  exact ⟨v2,by rw [e2]; rfl,g1,g2⟩
theorem CM (L : List Int) (a : Int) (l : List Int) (ha : 0 ≤ a) (ha' : a ≤ 4611686018427387904) (hL : (L.length : Int) ≤ 9223372036854775807) (hl : 0 < l.length) (hl' : l.length ≤ 1000) :
  ∃ v,Lp L a l = some (v,a + 1) ∧ v ∈ l:=by
 obtain ⟨v,h1,h2,h3⟩:=Vx L a (l.length : Int) ha ha' hL (by omega)
 have h4 : v < (l.length : Int):=by omega
 have hc : inB v l.length = true:=Ja.2 ⟨h2,h4⟩
 unfold Lp
 rw [h1]
 simp only [Option.bind_some]
 rw [Nt hc]
 exact ⟨nth l v,rfl,List.mem_of_getElem? (El hc).1⟩
theorem CN (L : List Int) (a n : Int) (ha : 0 ≤ a) (ha' : a ≤ 4611686018427387904) (hL : (L.length : Int) ≤ 9223372036854775807) (hn : n ≤ 4611686018427387904) : ∃ b,Lo L a n = some (b,a + 1):=by
 obtain ⟨v,h1,_,_⟩:=Vx L a n ha ha' hL hn
 unfold Lo
 rw [h1]
 exact ⟨_,rfl⟩
end Go.Proofs.YtcgffkkagmkhkaaGreatDoor
namespace Go.Proofs.YtcgffkkagmkhkaaGreatDoor
open Go

end Go.Proofs.YtcgffkkagmkhkaaGreatDoor
namespace Go.Proofs.YtcgffkkagmkhkaaGreatDoor
open Go

end Go.Proofs.YtcgffkkagmkhkaaGreatDoor
namespace Go.Proofs.YtcgffkkagmkhkaaGreatDoor
open Go

theorem BL {κ ν : Type} [DecidableEq κ] (k k' : κ) (v : ν) : ∀ (m : List (κ × ν)) (i : Nat),(Ot (Nz m k v) k' i).map (·.2) = if k' = k then some v else (Ot m k' i).map (·.2)
 | [],i=>by
  by_cases h : k' = k <;> simp [Nz,Ot,h]
 | (q,u) :: m,i=>by
  by_cases h : k = q
  ·subst h
   by_cases h2 : k' = k <;> simp [Nz,Ot,h2]
  ·by_cases h2 : k' = q
   ·subst h2
    have h3 : ¬ k' = k:=fun e=>h e.symm
    simp [Nz,Ot,h,h3]
   ·simp [Nz,Ot,h,h2,BL k k' v m (i + 1)]
theorem Tk {κ ν : Type} [DecidableEq κ] (m : List (κ × ν)) (k k' : κ) (v d : ν) : Jj (Nz m k v) k' d = if k' = k then v else Jj m k' d:=by
 unfold Jj Zn
 rw [BL]
 split <;> simp
def Oa (x : Ed) : Prop:=(1 ≤ x.Heats ∧ x.Heats ≤ 60) ∧ (1 ≤ x.Long ∧ x.Long ≤ 3600000) ∧ (0 ≤ x.Gap ∧ x.Gap ≤ 3600000) ∧ (0 ≤ x.Break ∧ x.Break ≤ 3600000)
end Go.Proofs.YtcgffkkagmkhkaaGreatDoor
namespace Go.Proofs.YtcgffkkagmkhkaaGreatDoor
open Go

def hs (y : Ed) : Nat → Int → Int → List Ee
 | 0,_,_=>[]
 | k + 1,h,t=>Ee.mk y.Key h (Gs.mk t (t + y.Long)) :: hs y k (h + 1) (t + y.Long + y.Gap)
def Sa (y : Ed) : Nat → Int → Int
 | 0,t=>t
 | 1,t=>t + y.Long
 | k + 2,t=>Sa y (k + 1) (t + y.Long + y.Gap)
theorem CO (y : Ed) : ∀ k h t,(hs y k h t).length = k
 | 0,_,_=>rfl
 | k + 1,h,t=>by simp [hs,CO y k]
theorem Qr (y : Ed) (hy : Oa y) : ∀ k t,t ≤ Sa y k t ∧ Sa y k t ≤ t + k * 7200000
 | 0,t=>by simp [Sa]
 | 1,t=>by unfold Oa at hy; simp [Sa]; omega
 | k + 2,t=>by
  have:=Qr y hy (k + 1) (t + y.Long + y.Gap)
  unfold Oa at hy
  simp only [Sa]
  push_cast at this ⊢
  omega
def tt : List Ed → Int → List Ee
 | [],_=>[]
 | y :: ys,t=>hs y y.Heats.toNat 1 t ++ tt ys (Sa y y.Heats.toNat t + y.Break)
theorem tt_l2 (y : Ed) (hy : Oa y) (j2 : List Ee → Int → Option (List Ee)) : ∀ (k m : Nat) (x3 : List Ee) (x4 x5 : Int),y.Heats - x5 + 1 = k → 1 ≤ x5 → k < m → x3.length + k < 1073741824 → 0 ≤ x4 → x4 + k * 7200000 ≤ 4611686018427387904 →
  Hj y j2 m x3 x4 x5 = j2 (x3 ++ hs y k x5 x4) (Sa y k x4):=by
 intro k
 induction k with
 | zero =>
  intro m x3 x4 x5 hk h1 hm hr h0 hb
  obtain ⟨m',rfl⟩ : ∃ m',m = m' + 1:=⟨m - 1,by omega⟩
  rw [Hj,if_neg (by simp; omega)]
  simp [hs,Sa]
 | succ k ih =>
  intro m x3 x4 x5 hk h1 hm hr h0 hb
  obtain ⟨m',rfl⟩ : ∃ m',m = m' + 1:=⟨m - 1,by omega⟩
  have hg:=hy
  unfold Oa at hg
  have w1 : W (x4 + y.Long) = x4 + y.Long:=Oq (by omega) (by omega)
  have w2 : W (x4 + y.Long + y.Gap) = x4 + y.Long + y.Gap:=Oq (by omega) (by omega)
  have w3 : W (x5 + 1) = x5 + 1:=Oq (by omega) (by omega)
  have hroom : Qa x3.length = true:=by unfold Qa; simp; omega
  rw [Hj,if_pos (by simp; omega)]
  simp only [Re]
  rw [Nt hroom,w1,w2,w3]
  by_cases hlast : x5 < y.Heats
  ·rw [if_pos (decide_eq_true hlast)]
   obtain ⟨k',rfl⟩ : ∃ k',k = k' + 1:=⟨k - 1,by omega⟩
   rw [ih m' _ _ _ (by omega) (by omega) (by omega) (by simp; omega) (by omega) (by push_cast at hb ⊢; omega)]
   simp [hs,Sa]
  ·rw [if_neg (by simpa using hlast)]
   have hk0 : k = 0:=by omega
   subst hk0
   rw [ih m' _ _ _ (by omega) (by omega) (by omega) (by simp; omega) (by omega) (by push_cast at hb ⊢; omega)]
   simp [hs,Sa]
theorem tt_l1 : ∀ (l : List Ed) (i : Nat) (x1 : List Ee) (x2 : Int),(∀ x ∈ l,Oa x) → l.length ≤ 100 → x1.length + l.length * 60 < 1073741824 → 0 ≤ x2 → x2 + l.length * 435600000 ≤ 4611686018427387904 →
  Hk (fun x=>some x) l i x1 x2 = some (x1 ++ tt l x2)
 | [],i,x1,x2,_,_,_,_,_=>by simp [Hk,tt]
 | y :: l,i,x1,x2,hg,hl,hr,h0,hb=>by
  have hy:=hg y List.mem_cons_self
  have hgood:=hy
  unfold Oa at hgood
  have hk : y.Heats.toNat ≤ 60:=by omega
  simp only [List.length_cons] at hr hb hl
  push_cast at hb
  have hbd:=Qr y hy y.Heats.toNat x2
  have w1 : W (Sa y y.Heats.toNat x2 + y.Break) = Sa y y.Heats.toNat x2 + y.Break:=Oq (by omega) (by omega)
  rw [Hk]
  simp only [Re]
  rw [tt_l2 y hy _ y.Heats.toNat _ x1 x2 1 (by omega) (by omega) (by omega) (by omega) h0 (by omega),w1]
  rw [tt_l1 l (i + 1) _ _ (fun x hx=>hg x (List.mem_cons_of_mem _ hx)) (by omega) (by simp [CO]; omega) (by omega) (by omega)]
  simp [tt]
theorem Ud (l : List Ed) (t : Int) (hg : ∀ x ∈ l,Oa x) (hl : l.length ≤ 100) (h0 : 0 ≤ t) (h1 : t ≤ 345686400000) : Lf l t = some (tt l t):=by
 unfold Lf
 rw [Re,tt_l1 l 0 [] t hg hl (by simp; omega) h0 (by omega)]
 simp
end Go.Proofs.YtcgffkkagmkhkaaGreatDoor
namespace Go.Proofs.YtcgffkkagmkhkaaGreatDoor
open Go

theorem IF {α : Type} [Inhabited α] (xs : List α) (s : α) (h : xs.length < 1073741824) : nth (xs ++ [s]) (W (((xs ++ [s]).length : Int) - 1)) = s:=by
 have w : W (((xs ++ [s]).length : Int) - 1) = (xs.length : Int):=by
  simp only [List.length_append,List.length_singleton]
  rw [Oq (by push_cast; omega) (by push_cast; omega)]
  push_cast; omega
 rw [w]
 unfold nth
 rw [Int.toNat_natCast]
 simp [List.getD]
theorem IG {α : Type} (xs : List α) (s : α) (h : xs.length < 1073741824) : inB (W (((xs ++ [s]).length : Int) - 1)) (xs ++ [s]).length = true:=by
 have w : W (((xs ++ [s]).length : Int) - 1) = (xs.length : Int):=by
  simp only [List.length_append,List.length_singleton]
  rw [Oq (by push_cast; omega) (by push_cast; omega)]
  push_cast; omega
 rw [w]
 exact Ja.2 ⟨by omega,by simp; omega⟩
theorem FN (y : Ed) : ∀ k h t,∃ pre s,hs y (k + 1) h t = pre ++ [s] ∧ s.Time.To = Sa y (k + 1) t
 | 0,h,t=>⟨[],_,rfl,rfl⟩
 | k + 1,h,t=>by
  obtain ⟨pre,s,h1,h2⟩:=FN y k (h + 1) (t + y.Long + y.Gap)
  exact ⟨_ :: pre,s,by rw [hs,h1]; rfl,by rw [h2]; rfl⟩
end Go.Proofs.YtcgffkkagmkhkaaGreatDoor
namespace Go.Proofs.YtcgffkkagmkhkaaGreatDoor
open Go

theorem AC : ∀ (l : List Ed) (t : Int),(∀ x ∈ l,Oa x) → (tt l t).length ≤ l.length * 60
 | [],_,_=>by simp [tt]
 | y :: l,t,hg=>by
  have h:=AC l (Sa y y.Heats.toNat t + y.Break) (fun x hx=>hg x (List.mem_cons_of_mem _ hx))
  have hy:=hg y List.mem_cons_self
  unfold Oa at hy
  simp [tt,CO]
  omega
def Om (l : List Ee) (t : Int) : Int:=match l.getLast? with
 | some s=>s.Time.To
 | none=>t
theorem ER (l : List Ee) (t : Int) (h : l.length < 1073741824) : Oc l t = some (Om l t):=by
 unfold Oc
 rcases List.eq_nil_or_concat l with rfl | ⟨pre,s,rfl⟩
 ·rfl
 ·simp only [List.concat_eq_append] at h ⊢
  have hp : pre.length < 1073741824:=by simp at h; omega
  rw [if_neg (by simp; omega),Nt (IG pre s hp),IF pre s hp]
  simp [Om]
end Go.Proofs.YtcgffkkagmkhkaaGreatDoor
namespace Go.Proofs.YtcgffkkagmkhkaaGreatDoor
open Go

end Go.Proofs.YtcgffkkagmkhkaaGreatDoor
namespace Go.Proofs.YtcgffkkagmkhkaaGreatDoor
open Go
end Go.Proofs.YtcgffkkagmkhkaaGreatDoor
namespace Go.Proofs.YtcgffkkagmkhkaaGreatDoor
open Go
end Go.Proofs.YtcgffkkagmkhkaaGreatDoor
namespace Go.Proofs.YtcgffkkagmkhkaaGreatDoor
open Go
def ixN : List Ed → ByteArray → Option Nat
 | [],_=>none
 | y :: ys,key=>if y.Key = key then some 0 else (ixN ys key).map (· + 1)
def ixI (l : List Ed) (key : ByteArray) : Int:=match ixN l key with
 | some k=>k
 | none=>-1
theorem FO (key : ByteArray) : ∀ (l : List Ed) (i : Nat),Fi key (-1) l i = match ixN l key with | some k=>((i + k : Nat) : Int) | none=>-1
 | [],i=>rfl
 | y :: ys,i=>by
  rw [Fi,ixN]
  unfold Pc
  by_cases h : y.Key = key
  ·simp [h]
  ·rw [if_neg (by simpa using h),if_neg h,FO key ys (i + 1)]
   cases ixN ys key with
   | none=>rfl
   | some k=>simp only [Option.map_some]; congr 1; omega
theorem Zh (l : List Ed) (key : ByteArray) : Ef l key = ixI l key:=by
 unfold Ef Im ixI
 rw [Re,FO]; simp
theorem AD : ∀ {l : List Ed} {key : ByteArray} {k : Nat},ixN l key = some k → k < l.length
 | [],_,_,h=>by cases h
 | y :: ys,key,k,h=>by
  rw [ixN] at h
  split at h
  ·cases h; simp
  ·cases hq : ixN ys key with
   | none=>rw [hq] at h; cases h
   | some q=>rw [hq] at h; cases h; have:=AD hq; simp; omega
def offN : List Ed → Nat → Nat
 | _,0=>0
 | [],_ + 1=>0
 | y :: ys,k + 1=>y.Heats.toNat + offN ys k
def atN (key : ByteArray) (h : Int) : List Ee → Option Nat
 | []=>none
 | s :: l=>if s.Item = key ∧ s.Heat = h then some 0 else (atN key h l).map (· + 1)
theorem FP (key : ByteArray) (h : Int) : ∀ (a b : List Ee),atN key h (a ++ b) = match atN key h a with | some k=>some k | none=>(atN key h b).map (· + a.length)
 | [],b=>by simp [atN]
 | s :: a,b=>by
  simp only [List.cons_append,atN,FP key h a b]
  split
  ·rfl
  ·cases atN key h a with
   | some k=>rfl
   | none=>simp only [Option.map_none]; cases atN key h b with
    | none=>rfl
    | some q=>simp; omega
theorem hs_at (y : Ed) (key : ByteArray) (h : Int) : ∀ (k : Nat) (h0 t : Int),atN key h (hs y k h0 t) = if y.Key = key ∧ h0 ≤ h ∧ h < h0 + k then some (h - h0).toNat else none
 | 0,h0,t=>by simp only [hs,atN]; rw [if_neg]; simp
 | k + 1,h0,t=>by
  simp only [hs,atN,hs_at y key h k (h0 + 1)]
  by_cases hk : y.Key = key
  ·by_cases hh : h0 = h
   ·subst hh; rw [if_pos ⟨hk,rfl⟩,if_pos ⟨hk,by omega,by push_cast; omega⟩]; simp
   ·rw [if_neg (fun g=>hh g.2)]
    by_cases hr : h0 + 1 ≤ h ∧ h < h0 + 1 + (k : Int)
    ·rw [if_pos ⟨hk,hr⟩,if_pos ⟨hk,by omega,by push_cast; omega⟩]; simp; omega
    ·rw [if_neg (fun g=>hr g.2),if_neg (fun g=>hr ⟨by omega,by have:=g.2.2; push_cast at this; omega⟩)]; rfl
  ·rw [if_neg (fun g=>hk g.1),if_neg (fun g=>hk g.1),if_neg (fun g=>hk g.1)]; rfl
theorem tt_at : ∀ (l : List Ed) (t : Int) (key : ByteArray) (h : Int) (k : Nat) (y : Ed),ixN l key = some k → l[k]? = some y → 1 ≤ h → h ≤ y.Heats → atN key h (tt l t) = some (offN l k + (h - 1).toNat)
 | [],_,_,_,_,_,h0,_,_,_=>by cases h0
 | x :: xs,t,key,h,k,y,h0,h1,h2,h3=>by
  rw [tt,FP,hs_at]
  rw [ixN] at h0
  by_cases hk : x.Key = key
  ·rw [if_pos hk] at h0
   cases h0
   cases h1
   rw [if_pos ⟨hk,h2,by omega⟩]; simp [offN]
  ·rw [if_neg hk] at h0
   cases hq : ixN xs key with
   | none=>rw [hq] at h0; cases h0
   | some q =>
    rw [hq] at h0
    cases h0
    rw [if_neg (fun g=>hk g.1)]
    simp only
    rw [tt_at xs _ key h q y hq (by simpa using h1) h2 h3,CO]
    simp only [Option.map_some,offN]; congr 1; omega
structure HV (l : List Ed) (p : Ey) (k : Nat) (y : Ed) : Prop where
 ix : ixN l p.Item = some k
 get : l[k]? = some y
 h1 : 1 ≤ p.Heat
 h2 : p.Heat ≤ y.Heats
 a1 : 0 ≤ p.At
 a2 : p.At ≤ 345686400000
end Go.Proofs.YtcgffkkagmkhkaaGreatDoor
namespace Go.Proofs.YtcgffkkagmkhkaaGreatDoor
open Go
theorem FQ : ∀ l : List UInt8,Lib.compareBytes l l = 0
 | []=>rfl
 | a :: l=>by
  rw [Lib.compareBytes,if_neg (by simp),if_neg (by simp)]; exact FQ l
theorem FR : ∀ l m : List UInt8,Lib.compareBytes l m = 0 → l = m
 | [],[],_=>rfl
 | [],_ :: _,h=>by simp [Lib.compareBytes] at h
 | _ :: _,[],h=>by simp [Lib.compareBytes] at h
 | a :: l,b :: m,h=>by
  rw [Lib.compareBytes] at h
  split at h
  ·cases h
  ·split at h
   ·cases h
   ·rename_i h1 h2
    rw [UInt8.lt_iff_toNat_lt] at h1 h2
    rw [FR l m h,show a = b from UInt8.toNat_inj.1 (by omega)]
theorem FT : ∀ l m : List UInt8,Lib.compareBytes m l = - Lib.compareBytes l m
 | [],[]=>rfl
 | [],_ :: _=>rfl
 | _ :: _,[]=>rfl
 | a :: l,b :: m=>by
  rw [Lib.compareBytes,Lib.compareBytes,FT l m]
  simp only [UInt8.lt_iff_toNat_lt]
  by_cases h1 : a.toNat < b.toNat
  ·rw [if_neg (by omega),if_pos h1,if_pos h1]; rfl
  ·by_cases h2 : b.toNat < a.toNat
   ·rw [if_pos h2,if_neg h1,if_pos h2]
   ·rw [if_neg h2,if_neg h1,if_neg h1,if_neg h2]
theorem DU : ∀ l m k : List UInt8,Lib.compareBytes l m < 0 → Lib.compareBytes m k < 0 → Lib.compareBytes l k < 0
 | l,m,[],_,h=>by cases m <;> simp [Lib.compareBytes] at h
 | [],m,c :: k,_,_=>by simp [Lib.compareBytes]
 | a :: l,[],c :: k,h,_=>by simp [Lib.compareBytes] at h
 | a :: l,b :: m,c :: k,h1,h2=>by
  rw [Lib.compareBytes] at h1 h2 ⊢
  simp only [UInt8.lt_iff_toNat_lt] at h1 h2 ⊢
  by_cases g1 : a.toNat < b.toNat
  ·by_cases g2 : c.toNat < b.toNat
   ·rw [if_neg (by omega),if_pos g2] at h2; cases h2
   ·rw [if_pos (by omega)]; decide
  ·by_cases g1' : b.toNat < a.toNat
   ·rw [if_neg g1,if_pos g1'] at h1; cases h1
   ·rw [if_neg g1,if_neg g1'] at h1
    by_cases g2 : b.toNat < c.toNat
    ·rw [if_pos (by omega)]; decide
    ·by_cases g3 : c.toNat < b.toNat
     ·rw [if_neg g2,if_pos g3] at h2; cases h2
     ·rw [if_neg g2,if_neg g3] at h2
      rw [if_neg (by omega),if_neg (by omega)]
      exact DU l m k h1 h2
def cB (s t : ByteArray) : Int:=Lib.compareBytes s.data.toList t.data.toList
theorem CP (s : ByteArray) : cB s s = 0:=FQ _
theorem Zi {s t : ByteArray} (h : cB s t = 0) : s = t:=by
 have:=FR _ _ h
 cases s; cases t
 simpa using this
theorem cB_eq {s t : ByteArray} : cB s t = 0 ↔ s = t:=⟨Zi,fun h=>by rw [h]; exact CP t⟩
theorem cB_flip (s t : ByteArray) : cB t s = - cB s t:=FT _ _
theorem AE {s t u : ByteArray} (h1 : cB s t < 0) (h2 : cB t u < 0) : cB s u < 0:=DU _ _ _ h1 h2
theorem Xn : ∀ l m : List UInt8,Op.bytesLess l m = decide (Lib.compareBytes l m < 0)
 | [],[]=>rfl
 | [],_ :: _=>rfl
 | _ :: _,[]=>rfl
 | a :: l,b :: m=>by
  rw [Op.bytesLess,Lib.compareBytes]
  simp only [UInt8.lt_iff_toNat_lt]
  by_cases h1 : a.toNat < b.toNat
  ·simp [h1]
  ·by_cases h2 : b.toNat < a.toNat
   ·have : a ≠ b:=by rintro rfl; omega
    simp [h1,h2,this]
   ·have : a = b:=UInt8.toNat_inj.1 (by omega)
    simp [this,Xn l m]
theorem IH (s t : ByteArray) : Wf s t = decide (cB s t < 0):=by
 unfold Wf cB
 rw [Xn,ByteArray.toList_eq,ByteArray.toList_eq]
end Go.Proofs.YtcgffkkagmkhkaaGreatDoor
namespace Go.Proofs.YtcgffkkagmkhkaaGreatDoor
open Go
theorem Lv {κ R : Type} (K : κ) (f : κ → R) : Ha K f = f K:=rfl
theorem My {R : Type} {c : Bool} {k : Option R} (h : c = true) : Chk c k = k:=by subst h; rfl
section
variable {α R : Type}
variable [Inhabited α]
theorem Zj (a : List α) (y : α) (b : List α) {e : Int} (he : e = (a.length : Int)) : nth (a ++ y :: b) e = y:=by
 subst he
 simp [nth]
def Sy (lt : α → α → Bool) (x : α) : List α → List α
 | []=>[x]
 | y :: r=>if lt x y then y :: Sy lt x r else x :: y :: r
def Ve (lt : α → α → Bool) (l rp : List α) : List α:=l.foldl (fun rp x=>Sy lt x rp) rp
def Lw (lt : α → α → Bool) (l : List α) : List α:=(Ve lt l []).reverse
omit [Inhabited α] in
theorem Vg (lt : α → α → Bool) (x : α) : ∀ l : List α,(Sy lt x l).length = l.length + 1
 | []=>rfl
 | y :: r=>by
  unfold Sy
  split
  ·simp [Vg lt x r]
  ·rfl
omit [Inhabited α] in
theorem Xo (lt : α → α → Bool) (x z : α) : ∀ l : List α,z ∈ Sy lt x l ↔ z = x ∨ z ∈ l
 | []=>by simp [Sy]
 | y :: r=>by
  unfold Sy
  split
  ·simp only [List.mem_cons,Xo lt x z r]
   constructor
   ·rintro (h | h | h)
    ·exact .inr (.inl h)
    ·exact .inl h
    ·exact .inr (.inr h)
   ·rintro (h | h | h)
    ·exact .inr (.inl h)
    ·exact .inl h
    ·exact .inr (.inr h)
  ·simp
theorem FU (C : α → α → (Bool → Option R) → Option R) (lt : α → α → Bool) (j : List α → Option R) (F : Nat → List α → Int → Option R)
  (h : ∀ m x i,F (m + 1) x i = if decide (0 < i) then Chk (inB i x.length) (Chk (inB (W (i - 1)) x.length) (C (nth x i) (nth x (W (i - 1))) (fun b=>if b then
   Chk (inB (W (i - 1)) x.length) (Chk (inB i x.length) (Chk (inB i x.length) (Chk (inB (W (i - 1)) (x.set i.toNat (nth x (W (i - 1)))).length) (F m ((x.set i.toNat (nth x (W (i - 1)))).set (W (i - 1)).toNat (nth x i)) (W (i - 1)))))) else j x))) else j x) :
  ∀ (rp : List α) (x : α) (post : List α) (m : Nat),rp.length < m → rp.length + post.length < 1073741824 → (∀ y ∈ rp,∀ k,C x y k = k (lt x y)) →
   F m (rp.reverse ++ x :: post) (rp.length : Int) = j ((Sy lt x rp).reverse ++ post)
 | [],x,post,m,h1,h2,_=>by
  obtain ⟨m,rfl⟩ : ∃ q,m = q + 1:=⟨m - 1,by omega⟩
  rw [h,if_neg (by simp)]
  rfl
 | y :: r,x,post,m,h1,h2,hC=>by
  obtain ⟨m,rfl⟩ : ∃ q,m = q + 1:=⟨m - 1,by omega⟩
  simp only [List.length_cons] at h1 h2
  have e0 : (y :: r).reverse ++ x :: post = r.reverse ++ y :: x :: post:=by simp
  have e0' : r.reverse ++ y :: x :: post = (r.reverse ++ [y]) ++ x :: post:=by simp
  have wi : W ((((y :: r).length : Nat) : Int) - 1) = (r.length : Int):=by rw [Oq (by simp only [List.length_cons]; omega) (by simp only [List.length_cons]; omega)]; simp
  have n1 : nth (r.reverse ++ y :: x :: post) (((y :: r).length : Nat) : Int) = x:=by rw [e0']; exact Zj _ _ _ (by simp)
  have n2 : nth (r.reverse ++ y :: x :: post) (r.length : Int) = y:=Zj _ _ _ (by simp)
  have b1 : inB (((y :: r).length : Nat) : Int) (r.reverse ++ y :: x :: post).length = true:=Ja.2 ⟨by omega,by simp; omega⟩
  have b2 : inB (r.length : Int) (r.reverse ++ y :: x :: post).length = true:=Ja.2 (by simp; omega)
  rw [h,e0,if_pos (decide_eq_true (by simp only [List.length_cons]; omega)),wi,My b1,My b2,n1,n2,hC y List.mem_cons_self]
  unfold Sy
  cases hb : lt x y with
  | true =>
   simp only [if_true]
   rw [My b2,My b1,My b1,My (by rw [List.length_set]; exact b2)]
   have e1 : ((r.reverse ++ y :: x :: post).set (((y :: r).length : Nat) : Int).toNat y).set (r.length : Int).toNat x = r.reverse ++ x :: (y :: post):=by
    have e2 : (r.reverse ++ y :: x :: post).set (((y :: r).length : Nat) : Int).toNat y = r.reverse ++ y :: y :: post:=by
     rw [e0',show (((y :: r).length : Nat) : Int).toNat = (r.reverse ++ [y]).length by simp,List.set_append_right _ _ (Nat.le_refl _)]
     simp
    rw [e2,show (r.length : Int).toNat = r.reverse.length by simp,List.set_append_right _ _ (Nat.le_refl _)]
    simp
   rw [e1,FU C lt j F h r x (y :: post) m (by omega) (by simp; omega) (fun z hz=>hC z (List.mem_cons_of_mem _ hz))]
   simp
  | false=>simp
omit [Inhabited α] in
theorem Zk (lt : α → α → Bool) (j : List α → Option R) (G : (List α → Option R) → List α → Int → Option R) (F : Nat → List α → Int → Option R) (n : Int)
  (h : ∀ m x i,F (m + 1) x i = if decide (i < n) then G (fun x=>F m x (W (i + 1))) x i else j x)
  (hG : ∀ k (rp : List α) (x : α) (post : List α),((rp ++ x :: post).length : Int) = n → (∀ y,y ∈ rp ∨ y = x ∨ y ∈ post → y ∈ (rp ++ x :: post)) → G k (rp.reverse ++ x :: post) (rp.length : Int) = k ((Sy lt x rp).reverse ++ post)) :
  ∀ (rest rp : List α) (m : Nat),rest.length < m → ((rp.length + rest.length : Nat) : Int) = n → rp.length + rest.length < 1073741824 →
   F m (rp.reverse ++ rest) (rp.length : Int) = j (Ve lt rest rp).reverse
 | [],rp,m,h1,h2,_=>by
  obtain ⟨m,rfl⟩ : ∃ q,m = q + 1:=⟨m - 1,by omega⟩
  rw [h,if_neg (by simp at h2; simp; omega)]
  simp [Ve]
 | x :: r,rp,m,h1,h2,h3=>by
  obtain ⟨m,rfl⟩ : ∃ q,m = q + 1:=⟨m - 1,by omega⟩
  simp only [List.length_cons] at h1 h2 h3
  rw [h,if_pos (by simp; omega),hG _ rp x r (by simp; omega) (fun y hy=>by simpa using hy),show W ((rp.length : Int) + 1) = ((Sy lt x rp).length : Int) by rw [Oq (by omega) (by omega),Vg]; rfl,
   Zk lt j G F n h hG r (Sy lt x rp) m (by omega) (by rw [Vg]; omega) (by rw [Vg]; omega)]
  rfl
omit [Inhabited α] in
theorem BM (lt : α → α → Bool) (z : α) : ∀ l rp : List α,z ∈ Ve lt l rp ↔ z ∈ l ∨ z ∈ rp
 | [],rp=>by simp [Ve]
 | x :: l,rp=>by
  show z ∈ Ve lt l (Sy lt x rp) ↔ _
  rw [BM lt z l,Xo]
  simp only [List.mem_cons]
  constructor
  ·rintro (h | h | h)
   ·exact .inl (.inr h)
   ·exact .inl (.inl h)
   ·exact .inr h
  ·rintro ((h | h) | h)
   ·exact .inr (.inl h)
   ·exact .inl h
   ·exact .inr (.inr h)
omit [Inhabited α] in
end
end Go.Proofs.YtcgffkkagmkhkaaGreatDoor
namespace Go.Proofs.YtcgffkkagmkhkaaGreatDoor
open Go
section
variable {α : Type}
theorem BN {lt : α → α → Bool} (ht : ∀ x y z,lt x y = true → lt y z = true → lt x z = true) (x : α) : ∀ rp : List α,rp.Pairwise (fun a b=>lt b a = true) → (∀ y ∈ rp,lt x y = false → lt y x = true) → (Sy lt x rp).Pairwise fun a b=>lt b a = true
 | [],_,_=>by simp [Sy]
 | y :: r,h,hx=>by
  rw [List.pairwise_cons] at h
  unfold Sy
  cases hxy : lt x y with
  | true =>
   rw [if_pos rfl]
   refine List.pairwise_cons.2 ⟨fun z hz=>?_,BN ht x r h.2 fun z hz=>hx z (List.mem_cons_of_mem _ hz)⟩
   rcases (Xo lt x z r).1 hz with rfl | hz
   ·exact hxy
   ·exact h.1 z hz
  | false =>
   rw [if_neg (by simp)]
   have h1:=hx y (by simp) hxy
   refine List.pairwise_cons.2 ⟨fun z hz=>?_,List.pairwise_cons.2 h⟩
   rcases List.mem_cons.1 hz with rfl | hz
   ·exact h1
   ·exact ht z y x (h.1 z hz) h1
theorem AF {lt : α → α → Bool} (ht : ∀ x y z,lt x y = true → lt y z = true → lt x z = true) : ∀ l rp : List α,rp.Pairwise (fun a b=>lt b a = true) → (∀ x ∈ l,∀ y ∈ rp,lt x y = false → lt y x = true) → l.Pairwise (fun a b=>lt b a = false → lt a b = true) →
  (Ve lt l rp).Pairwise fun a b=>lt b a = true
 | [],rp,h,_,_=>h
 | x :: l,rp,h,h1,h2=>by
  rw [List.pairwise_cons] at h2
  show (Ve lt l (Sy lt x rp)).Pairwise _
  refine AF ht l _ (BN ht x rp h (h1 x (by simp))) (fun z hz y hy=>?_) h2.2
  rcases (Xo lt x y rp).1 hy with rfl | hy
  ·exact h2.1 z hz
  ·exact h1 z (List.mem_cons_of_mem _ hz) y hy
theorem BO {lt : α → α → Bool} (ht : ∀ x y z,lt x y = true → lt y z = true → lt x z = true) (l : List α) (h : l.Pairwise fun a b=>lt b a = false → lt a b = true) : (Lw lt l).Pairwise fun a b=>lt a b = true:=by
 unfold Lw
 rw [List.pairwise_reverse]
 exact AF ht l [] List.Pairwise.nil (fun _ _ _ h=>by cases h) h
theorem Vy (lt : α → α → Bool) (l : List α) (z : α) : z ∈ Lw lt l ↔ z ∈ l:=by
 unfold Lw
 rw [List.mem_reverse,BM]
 simp
theorem FV {lt : α → α → Bool} (hi : ∀ x,lt x x = false) (ht : ∀ x y z,lt x y = true → lt y z = true → lt x z = true) : ∀ A B : List α,A.Pairwise (fun a b=>lt a b = true) → B.Pairwise (fun a b=>lt a b = true) → (∀ x,x ∈ A ↔ x ∈ B) → A = B
 | [],[],_,_,_=>rfl
 | [],b :: B,_,_,h=>by have:=(h b).2 (by simp); cases this
 | a :: A,[],_,_,h=>by have:=(h a).1 (by simp); cases this
 | a :: A,b :: B,hA,hB,h=>by
  rw [List.pairwise_cons] at hA hB
  have hab : a = b:=by
   rcases List.mem_cons.1 ((h a).1 (by simp)) with e | h1
   ·exact e
   ·rcases List.mem_cons.1 ((h b).2 (by simp)) with e | h2
    ·exact e.symm
    ·have:=ht a b a (hA.1 b h2) (hB.1 a h1)
     rw [hi] at this
     cases this
  subst hab
  have : A = B:=FV hi ht A B hA.2 hB.2 fun x=>by
   have hx:=h x
   constructor
   ·intro hm
    rcases List.mem_cons.1 (hx.1 (List.mem_cons_of_mem _ hm)) with rfl | h3
    ·have:=hA.1 x hm; rw [hi] at this; cases this
    ·exact h3
   ·intro hm
    rcases List.mem_cons.1 (hx.2 (List.mem_cons_of_mem _ hm)) with rfl | h3
    ·have:=hB.1 x hm; rw [hi] at this; cases this
    ·exact h3
  rw [this]
theorem AG (lt : α → α → Bool) : ∀ l rp : List α,(Ve lt l rp).length = l.length + rp.length
 | [],rp=>by simp [Ve]
 | x :: l,rp=>by
  show (Ve lt l (Sy lt x rp)).length = _
  rw [AG lt l,Vg]
  simp only [List.length_cons]
  omega
theorem AH (lt : α → α → Bool) (l : List α) : (Lw lt l).length = l.length:=by
 unfold Lw
 rw [List.length_reverse,AG]
 simp
theorem II {lt : α → α → Bool} (hi : ∀ x,lt x x = false) (ht : ∀ x y z,lt x y = true → lt y z = true → lt x z = true) (A B : List α) (h : A.Pairwise fun a b=>lt b a = false → lt a b = true) (hB : B.Pairwise fun a b=>lt a b = true) (hm : ∀ x,x ∈ A ↔ x ∈ B) : Lw lt A = B :=
 FV hi ht _ _ (BO ht A h) hB fun x=>by rw [Vy,hm]
def nbF [DecidableEq α] (p : α) : List α → List α
 | []=>[]
 | y :: r=>if y = p then nbF y r else y :: nbF y r
def nb [DecidableEq α] : List α → List α
 | []=>[]
 | x :: r=>x :: nbF x r
variable {R : Type} [Inhabited α]
theorem Xp {l : List α} {k : Nat} {y : α} (h : l[k]? = some y) : nth l (k : Int) = y:=by simp [nth,List.getD,h]
end
end Go.Proofs.YtcgffkkagmkhkaaGreatDoor
namespace Go.Proofs.YtcgffkkagmkhkaaGreatDoor
open Go
theorem IJ (x y : Int) : Gg x y = if x < y then -1 else if y < x then 1 else 0:=by
 unfold Gg Ox
 simp
theorem orc3 (a b c : Int) : Nm [a,b,c] = if a ≠ 0 then a else if b ≠ 0 then b else c:=by
 unfold Nm
 simp only [Lv,Ky]
 by_cases h1 : a = 0 <;> by_cases h2 : b = 0 <;> by_cases h3 : c = 0 <;> simp [h1,h2,h3]
theorem orc2 (a b : Int) : Nm [a,b] = if a ≠ 0 then a else b:=by
 unfold Nm
 simp only [Lv,Ky]
 by_cases h1 : a = 0 <;> by_cases h2 : b = 0 <;> simp [h1,h2]
def cC (a b : Es) : Int:=if cB a.Who b.Who ≠ 0 then cB a.Who b.Who else if cB a.Item b.Item ≠ 0 then cB a.Item b.Item else if a.Heat < b.Heat then -1 else if b.Heat < a.Heat then 1 else 0
theorem Yz (a b : Es) : Kq a b = cC a b:=by
 unfold Kq cC
 have h1 : Ii a.Who b.Who = cB a.Who b.Who:=rfl
 have h2 : Ii a.Item b.Item = cB a.Item b.Item:=rfl
 rw [orc3,IJ,h1,h2]
structure CV (items : List Ed) (c : Es) (k : Nat) (y : Ed) : Prop where
 ix : ixN items c.Item = some k
 get : items[k]? = some y
 h1 : 1 ≤ c.Heat
 h2 : c.Heat ≤ y.Heats
def GT (l : List Es) : Prop:=∀ dn p q ys,l = dn ++ p :: q :: ys → cC p q < 0
end Go.Proofs.YtcgffkkagmkhkaaGreatDoor
namespace Go.Proofs.YtcgffkkagmkhkaaGreatDoor
open Go
section
variable {α β R : Type}
def sel (P : α → Nat → Bool) (f : α → Nat → β) : List α → Nat → List β
 | [],_=>[]
 | y :: ys,i=>if P y i then f y i :: sel P f ys (i + 1) else sel P f ys (i + 1)
theorem BP (P : α → Bool) (f : α → β) : ∀ (l : List α) (i : Nat),sel (fun y _=>P y) (fun y _=>f y) l i = (l.filter P).map f
 | [],_=>rfl
 | y :: ys,i=>by
  unfold sel
  rw [BP P f ys (i + 1),List.filter_cons]
  split <;> rfl
theorem IK (P : α → Nat → Bool) (f : α → Nat → β) (j : List β → Option R) (F : List α → Nat → List β → Option R) (h0 : ∀ i x,F [] i x = j x) (l : List α) (hl : l.length < 1073741824) (c0 : Nat) (hc0 : c0 + l.length < 1073741824)
  (h1 : ∀ (dn : List α) (y : α) (ys : List α) (x : List β),l = dn ++ y :: ys → x.length ≤ c0 + dn.length → F (y :: ys) dn.length x = if P y dn.length then Chk (Qa x.length) (F ys (dn.length + 1) (x ++ [f y dn.length])) else F ys (dn.length + 1) x) :
  ∀ (ys dn : List α) (x : List β),l = dn ++ ys → x.length ≤ c0 + dn.length → F ys dn.length x = j (x ++ sel P f ys dn.length)
 | [],dn,x,_,_=>by rw [h0]; simp [sel]
 | y :: ys,dn,x,h,hx=>by
  have hlen : l.length = dn.length + (ys.length + 1):=by rw [h]; simp
  have h' : l = (dn ++ [y]) ++ ys:=by rw [h]; simp
  have e : (dn ++ [y]).length = dn.length + 1:=by simp
  rw [h1 dn y ys x h hx]
  unfold sel
  cases hp : P y dn.length with
  | true =>
   simp only [if_true]
   rw [My (by unfold Qa; simp; omega)]
   have ih:=IK P f j F h0 l hl c0 hc0 h1 ys (dn ++ [y]) (x ++ [f y dn.length]) h' (by rw [e]; simp; omega)
   rw [e] at ih
   rw [ih]
   simp
  | false =>
   simp only [Bool.false_eq_true,if_false]
   have ih:=IK P f j F h0 l hl c0 hc0 h1 ys (dn ++ [y]) x h' (by rw [e]; omega)
   rw [e] at ih
   exact ih
theorem app_0 (P : α → Bool) (f : α → β) (j : List β → Option R) (F : List α → Nat → List β → Option R) (h0 : ∀ i x,F [] i x = j x) (l : List α) (hl : l.length < 1073741824)
  (h1 : ∀ (y : α) (ys : List α) (i : Nat) (x : List β),F (y :: ys) i x = if P y then Chk (Qa x.length) (F ys (i + 1) (x ++ [f y])) else F ys (i + 1) x) : F l 0 [] = j ((l.filter P).map f):=by
 have:=IK (fun y _=>P y) (fun y _=>f y) j F h0 l hl 0 (by omega) (fun dn y ys x _ _=>h1 y ys dn.length x) l [] [] rfl (by simp)
 rw [List.length_nil,BP] at this
 exact this
variable [DecidableEq α] [Inhabited α]
theorem eq_l (l : List α) (F : List α → Nat → Option Bool) (h0 : ∀ i,F [] i = some true) (h1 : ∀ y ys i,F (y :: ys) i = Chk (inB (i : Int) l.length) (if !decide (y = nth l (i : Int)) then some false else F ys (i + 1))) : ∀ (ys dn : List α),l = dn ++ ys → F ys dn.length = some true
 | [],dn,_=>h0 _
 | y :: ys,dn,h=>by
  have hlen : l.length = dn.length + (ys.length + 1):=by rw [h]; simp
  have hn : nth l (dn.length : Int) = y:=by rw [h]; exact Zj _ _ _ rfl
  have ih:=eq_l l F h0 h1 ys (dn ++ [y]) (by rw [h]; simp)
  rw [List.length_append] at ih
  rw [h1,My (Ja.2 (by omega)),hn]
  simpa using ih
end
section
variable {α R : Type} [Inhabited α]
end
end Go.Proofs.YtcgffkkagmkhkaaGreatDoor
namespace Go.Proofs.YtcgffkkagmkhkaaGreatDoor
open Go
theorem AI (y : Ed) (hy : Oa y) : ∀ (k : Nat) (h t : Int) (s : Ee),s ∈ hs y k h t → s.Item = y.Key ∧ h ≤ s.Heat ∧ t ≤ s.Time.From ∧ s.Time.From < Sa y k t
 | 0,_,_,_,hm=>by cases hm
 | k + 1,h,t,s,hm=>by
  have hy':=hy
  unfold Oa at hy'
  rw [hs] at hm
  rcases List.mem_cons.1 hm with rfl | hm
  ·refine ⟨rfl,Int.le_refl _,Int.le_refl _,?_⟩
   cases k with
   | zero=>simp only [Sa]; omega
   | succ k =>
    have:=Qr y hy (k + 1) (t + y.Long + y.Gap)
    simp only [Sa]
    omega
  ·obtain ⟨h1,h2,h3,h4⟩:=AI y hy k (h + 1) (t + y.Long + y.Gap) s hm
   refine ⟨h1,by omega,by omega,?_⟩
   cases k with
   | zero=>cases hm
   | succ k=>exact h4
theorem CQ (y : Ed) (hy : Oa y) : ∀ (k : Nat) (h t : Int),(hs y k h t).Pairwise fun a b=>a.Time.From < b.Time.From ∧ a.Heat < b.Heat
 | 0,_,_=>List.Pairwise.nil
 | k + 1,h,t=>by
  have hy':=hy
  unfold Oa at hy'
  rw [hs]
  refine List.pairwise_cons.2 ⟨fun s hm=>?_,CQ y hy k _ _⟩
  obtain ⟨_,h2,h3,_⟩:=AI y hy k (h + 1) (t + y.Long + y.Gap) s hm
  exact ⟨by show t < _; omega,by show h < _; omega⟩
theorem ES : ∀ (l : List Ed) (t : Int) (s : Ee),(∀ x ∈ l,Oa x) → s ∈ tt l t → t ≤ s.Time.From ∧ ∃ y ∈ l,s.Item = y.Key
 | [],_,_,_,hm=>by cases hm
 | y :: ys,t,s,hg,hm=>by
  have hy:=hg y (by simp)
  have hy':=hy
  unfold Oa at hy'
  rw [tt] at hm
  rcases List.mem_append.1 hm with hm | hm
  ·obtain ⟨h1,_,h3,_⟩:=AI y hy _ _ _ s hm
   exact ⟨h3,y,by simp,h1⟩
  ·obtain ⟨h1,z,hz,h2⟩:=ES ys _ s (fun x hx=>hg x (List.mem_cons_of_mem _ hx)) hm
   have:=Qr y hy y.Heats.toNat t
   exact ⟨by omega,z,List.mem_cons_of_mem _ hz,h2⟩
theorem FW : ∀ (l : List Ed) (t : Int),(∀ x ∈ l,Oa x) → (tt l t).Pairwise fun a b=>a.Time.From < b.Time.From
 | [],_,_=>List.Pairwise.nil
 | y :: ys,t,hg=>by
  have hy:=hg y (by simp)
  have hy':=hy
  unfold Oa at hy'
  have hgs : ∀ x ∈ ys,Oa x:=fun x hx=>hg x (List.mem_cons_of_mem _ hx)
  rw [tt]
  refine List.pairwise_append.2 ⟨(CQ y hy _ _ _).imp_of_mem fun _ _ h=>h.1,FW ys _ hgs,fun a ha b hb=>?_⟩
  obtain ⟨_,_,_,h4⟩:=AI y hy _ _ _ a ha
  obtain ⟨h1,_⟩:=ES ys _ b hgs hb
  omega
theorem IL : ∀ (l : List Ed) (t : Int),(∀ x ∈ l,Oa x) → (l.Pairwise fun a b=>a.Key ≠ b.Key) → (tt l t).Pairwise fun a b=>a.Item = b.Item → a.Heat ≠ b.Heat
 | [],_,_,_=>List.Pairwise.nil
 | y :: ys,t,hg,hd=>by
  have hy:=hg y (by simp)
  have hgs : ∀ x ∈ ys,Oa x:=fun x hx=>hg x (List.mem_cons_of_mem _ hx)
  rw [List.pairwise_cons] at hd
  rw [tt]
  refine List.pairwise_append.2 ⟨(CQ y hy _ _ _).imp_of_mem fun _ _ h _=>by have:=h.2; omega,IL ys _ hgs hd.2,fun a ha b hb he=>?_⟩
  obtain ⟨h1,_⟩:=AI y hy _ _ _ a ha
  obtain ⟨_,z,hz,h2⟩:=ES ys _ b hgs hb
  exact absurd (h1.symm.trans (he.trans h2)) (hd.1 z hz)
theorem FX (key : ByteArray) (h : Int) : ∀ (l : List Ee) (k : Nat),atN key h l = some k → ∃ s ∈ l,s.Item = key ∧ s.Heat = h
 | [],_,e=>by cases e
 | s :: l,k,e=>by
  rw [atN] at e
  split at e
  ·rename_i hc
   exact ⟨s,by simp,hc⟩
  ·cases hq : atN key h l with
   | none=>rw [hq] at e; cases e
   | some q =>
    obtain ⟨z,hz,h1⟩:=FX key h l q hq
    exact ⟨z,List.mem_cons_of_mem _ hz,h1⟩
theorem tt_has {items : List Ed} {c : Es} {k : Nat} {y : Ed} (h : CV items c k y) (t : Int) : ∃ s ∈ tt items t,s.Item = c.Item ∧ s.Heat = c.Heat :=
 FX _ _ _ _ (tt_at items t c.Item c.Heat k y h.ix h.get h.h1 h.h2)
theorem DV (z : Ee) (it : ByteArray) (hh : Int) : ∀ (ys : List Ee) (i : Nat) (m : List (An × Ee)),(∀ s ∈ ys,it = s.Item → hh ≠ s.Heat) → Jj (Ie (fun x=>x) ys i m) ⟨it,hh⟩ z = Jj m ⟨it,hh⟩ z
 | [],_,_,_=>rfl
 | y :: ys,i,m,h=>by
  rw [Ie,DV z it hh ys (i + 1) _ fun s hs=>h s (List.mem_cons_of_mem _ hs),Tk,if_neg]
  intro e
  rw [An.mk.injEq] at e
  exact h y (by simp) e.1 e.2
theorem BQ (z : Ee) : ∀ (T : List Ee) (i : Nat) (m : List (An × Ee)) (s : Ee),(T.Pairwise fun a b=>a.Item = b.Item → a.Heat ≠ b.Heat) → s ∈ T → Jj (Ie (fun x=>x) T i m) ⟨s.Item,s.Heat⟩ z = s
 | [],_,_,_,_,hm=>by cases hm
 | y :: ys,i,m,s,hp,hm=>by
  rw [List.pairwise_cons] at hp
  rw [Ie]
  rcases List.mem_cons.1 hm with rfl | hm
  ·rw [DV z _ _ ys (i + 1) _ fun b hb e=>hp.1 b hb e,Tk,if_pos rfl]
  ·exact BQ z ys (i + 1) _ s hp.2 hm
theorem CR {a b : Es} : cC a b < 0 ↔ cB a.Who b.Who < 0 ∨ (a.Who = b.Who ∧ (cB a.Item b.Item < 0 ∨ (a.Item = b.Item ∧ a.Heat < b.Heat))):=by
 unfold cC
 by_cases h1 : cB a.Who b.Who = 0
 ·have e1:=Zi h1
  rw [if_neg (by simpa using h1)]
  by_cases h2 : cB a.Item b.Item = 0
  ·have e2:=Zi h2
   rw [if_neg (by simpa using h2)]
   by_cases h3 : a.Heat < b.Heat
   ·rw [if_pos h3]
    exact ⟨fun _=>.inr ⟨e1,.inr ⟨e2,h3⟩⟩,fun _=>by decide⟩
   ·rw [if_neg h3]
    refine ⟨fun h=>?_,fun h=>?_⟩
    ·split at h <;> cases h
    ·rcases h with h | ⟨_,h | ⟨_,h⟩⟩ <;> omega
  ·rw [if_pos h2]
   refine ⟨fun h=>.inr ⟨e1,.inl h⟩,fun h=>?_⟩
   rcases h with h | ⟨_,h | ⟨h,_⟩⟩
   ·omega
   ·exact h
   ·exact absurd (cB_eq.2 h) h2
 ·rw [if_pos h1]
  refine ⟨.inl,fun h=>?_⟩
  rcases h with h | ⟨h,_⟩
  ·exact h
  ·exact absurd (cB_eq.2 h) h1
theorem IM {a b c : Es} (h1 : cC a b < 0) (h2 : cC b c < 0) : cC a c < 0:=by
 rw [CR] at *
 rcases h1 with h1 | ⟨e1,h1⟩
 ·rcases h2 with h2 | ⟨e2,_⟩
  ·exact .inl (AE h1 h2)
  ·rw [← e2]; exact .inl h1
 ·rcases h2 with h2 | ⟨e2,h2⟩
  ·rw [e1]; exact .inl h2
  ·refine .inr ⟨e1.trans e2,?_⟩
   rcases h1 with h1 | ⟨i1,h1⟩
   ·rcases h2 with h2 | ⟨i2,_⟩
    ·exact .inl (AE h1 h2)
    ·rw [← i2]; exact .inl h1
   ·rcases h2 with h2 | ⟨i2,h2⟩
    ·rw [i1]; exact .inl h2
    ·exact .inr ⟨i1.trans i2,by omega⟩
theorem cC_irr (a : Es) : ¬ cC a a < 0:=by
 rw [CR,CP,CP]
 intro h
 rcases h with h | ⟨_,h | ⟨_,h⟩⟩ <;> omega
theorem FY {l : List Es} (h : GT l) : ∀ (ys dn : List Es) (y : Es),l = dn ++ y :: ys → ∀ z ∈ ys,cC y z < 0
 | [],_,_,_,z,hz=>by cases hz
 | x :: ys,dn,y,e,z,hz=>by
  have h1:=h dn y x ys e
  rcases List.mem_cons.1 hz with rfl | hz
  ·exact h1
  ·exact IM h1 (FY h ys (dn ++ [y]) x (by rw [e]; simp) z hz)
theorem ET {l : List Es} (h : GT l) : l.Pairwise fun a b=>cC a b < 0:=by
 have : ∀ (ys dn : List Es),l = dn ++ ys → ys.Pairwise fun a b=>cC a b < 0:=by
  intro ys
  induction ys with
  | nil=>intro _ _; exact List.Pairwise.nil
  | cons y ys ih =>
   intro dn e
   exact List.pairwise_cons.2 ⟨FY h ys dn y e,ih (dn ++ [y]) (by rw [e]; simp)⟩
 exact this l [] rfl
def ltS (x y : Ee) : Bool:=decide (Kf x y < 0)
theorem CS (x y : Ee) : ltS x y = decide (x.Time.From < y.Time.From):=by
 unfold ltS Kf
 rw [IJ]
 by_cases h1 : x.Time.From < y.Time.From
 ·simp [h1]
 ·by_cases h2 : y.Time.From < x.Time.From <;> simp [h1,h2]
theorem len13 : ∀ n : Fin 13,(Sj (IntKind.wrap .u64 (n.val : Int))).isSome = true:=by decide +kernel
theorem GU (l : List Ee) (hl : l.length ≤ 12) : Gl l 0 (l.length : Int) = some (Lw ltS l):=by
 unfold Gl
 simp only [Lv]
 have hins : ∀ (k : List Ee → Option (List Ee)) (rp : List Ee) (x : Ee) (post : List Ee),((rp ++ x :: post).length : Int) = (l.length : Int) → (∀ y,y ∈ rp ∨ y = x ∨ y ∈ post → y ∈ (rp ++ x :: post)) →
   Et 0 k (((rp.length : Int) - 0).toNat + 2) (rp.reverse ++ x :: post) (rp.length : Int) = k ((Sy ltS x rp).reverse ++ post):=by
  intro k rp x post h1 _
  exact FU (fun x y k=>k (ltS x y)) ltS k (Et 0 k) (fun _ _ _=>rfl) rp x post _ (by omega) (by simp at h1; omega) fun y _ k'=>rfl
 cases l with
 | nil=>rfl
 | cons x l =>
  have hw : W (0 + 1) = (([x] : List Ee).length : Int):=rfl
  rw [hw]
  exact Zk ltS (fun x=>some x) (fun k x i=>Et 0 k ((i - 0).toNat + 2) x i) (Ez ((x :: l).length : Int) 0 fun x=>some x) ((x :: l).length : Int) (fun _ _ _=>rfl)
   (fun k rp x post h1 h2=>hins k rp x post h1 h2) l [x] _ (by simp only [List.length_cons,List.length_nil]; omega) (by simp only [List.length_cons,List.length_nil]; omega) (by simp only [List.length_cons,List.length_nil] at hl ⊢; omega)
theorem IP (l : List Ee) (hl : l.length ≤ 12) : Gp l = some (Lw ltS l):=by
 unfold Gp
 have h:=len13 ⟨l.length,by omega⟩
 obtain ⟨r,hr⟩:=Option.isSome_iff_exists.1 h
 simp only at hr
 rw [hr]
 simp only [Option.bind_some]
 unfold Hv
 rw [show (4611686018427387904 : Nat) = 4611686018427387903 + 1 from rfl,Fp,Oq (by omega) (by omega),if_pos (decide_eq_true (by omega)),GU l hl]
 rfl
def We (T : List Ee) (l : List Es) (who : ByteArray) : List Ee:=T.filter fun s=>l.any fun c=>decide (Es.mk who s.Item s.Heat = c)
theorem IQ (items : List Ed) (hg : ∀ x ∈ items,Oa x) (hd : items.Pairwise fun a b=>a.Key ≠ b.Key) (l : List Es) (hl : l.length ≤ 2000) (hcv : ∀ c ∈ l,∃ k y,CV items c k y) (hadj : GT l) (t : Int) (who : ByteArray)
  (hN : (l.filter fun c=>decide (c.Who = who)).length ≤ 12) : Mk (Jq (tt items t)) l who = some (We (tt items t) l who):=by
 have hk:=IL items t hg hd
 have hp:=FW items t hg
 have hsl : Jq (tt items t) = Ie (fun x=>x) (tt items t) 0 []:=rfl
 have hget : ∀ s ∈ tt items t,Jj (Jq (tt items t)) ⟨s.Item,s.Heat⟩ (Ee.mk En 0 (Gs.mk 0 0)) = s:=fun s hs=>by
  rw [hsl]; exact BQ _ _ 0 [] s hk hs
 unfold Mk
 simp only [Lv]
 rw [app_0 (fun c : Es=>decide (c.Who = who)) (fun c=>Jj (Jq (tt items t)) ⟨c.Item,c.Heat⟩ (Ee.mk En 0 (Gs.mk 0 0))) (fun x1=>Option.bind (Gp x1) fun r1=>some r1) (Kg who (Jq (tt items t)) fun x1=>Option.bind (Gp x1) fun r1=>some r1) (fun _ _=>rfl) l (by omega) (fun _ _ _ _=>rfl)]
 rw [IP _ (by rw [List.length_map]; exact hN)]
 simp only [Option.bind_some]
 congr 1
 have slot : ∀ c ∈ l,∃ s ∈ tt items t,s.Item = c.Item ∧ s.Heat = c.Heat ∧ Jj (Jq (tt items t)) ⟨c.Item,c.Heat⟩ (Ee.mk En 0 (Gs.mk 0 0)) = s:=fun c hc=>by
  obtain ⟨k,y,h⟩:=hcv c hc
  obtain ⟨s,h1,h2,h3⟩:=tt_has h t
  exact ⟨s,h1,h2,h3,by rw [← h2,← h3]; exact hget s h1⟩
 have part : ∀ a ∈ tt items t,∀ b ∈ tt items t,a ≠ b → a.Time.From < b.Time.From ∨ b.Time.From < a.Time.From:=by
  intro a ha b hb hne
  obtain ⟨i,hi⟩:=List.getElem?_of_mem ha
  obtain ⟨j,hj⟩:=List.getElem?_of_mem hb
  obtain ⟨i1,i2⟩:=List.getElem?_eq_some_iff.1 hi
  obtain ⟨j1,j2⟩:=List.getElem?_eq_some_iff.1 hj
  rw [List.pairwise_iff_getElem] at hp
  rcases Nat.lt_trichotomy i j with h | h | h
  ·have:=hp i j i1 j1 h; rw [i2,j2] at this; exact .inl this
  ·subst h; rw [i2] at j2; exact absurd j2 hne
  ·have:=hp j i j1 i1 h; rw [i2,j2] at this; exact .inr this
 refine II (fun x=>by rw [CS]; simp) (fun x y z h1 h2=>by rw [CS] at *; simp at *; omega) _ _ ?_ ?_ ?_
 ·rw [List.pairwise_map]
  refine List.Pairwise.imp_of_mem (fun {a b} ha hb h=>?_) ((ET hadj).filter _)
  intro h0
  obtain ⟨ha1,ha2⟩:=List.mem_filter.1 ha
  obtain ⟨hb1,hb2⟩:=List.mem_filter.1 hb
  obtain ⟨s,s1,s2,s3,s4⟩:=slot a ha1
  obtain ⟨r,r1,r2,r3,r4⟩:=slot b hb1
  rw [s4,r4] at h0 ⊢
  rw [CS] at h0 ⊢
  have hne : s ≠ r:=by
   rintro rfl
   have hab : a = b:=by
    have e1:=of_decide_eq_true ha2
    have e2:=of_decide_eq_true hb2
    cases a; cases b
    simp only [Es.mk.injEq] at *
    exact ⟨e1.trans e2.symm,s2.symm.trans r2,s3.symm.trans r3⟩
   subst hab
   exact cC_irr a h
  rcases part s s1 r r1 hne with h2 | h2
  ·exact decide_eq_true h2
  ·rw [decide_eq_true h2] at h0; cases h0
 ·unfold We
  refine List.Pairwise.imp_of_mem (fun {a b} _ _ h=>by rw [CS]; exact decide_eq_true h) (hp.filter _)
 ·intro x
  unfold We
  rw [List.mem_map,List.mem_filter,List.any_eq_true]
  constructor
  ·rintro ⟨c,hc,rfl⟩
   obtain ⟨hc1,hc2⟩:=List.mem_filter.1 hc
   obtain ⟨s,s1,s2,s3,s4⟩:=slot c hc1
   rw [s4]
   refine ⟨s1,c,hc1,decide_eq_true ?_⟩
   have e1:=of_decide_eq_true hc2
   rw [s2,s3,← e1]
  ·rintro ⟨hx,c,hc,h1⟩
   have h1:=of_decide_eq_true h1
   refine ⟨c,List.mem_filter.2 ⟨hc,?_⟩,?_⟩
   ·rw [← h1]; exact decide_eq_true rfl
   ·rw [← h1]; exact hget x hx
end Go.Proofs.YtcgffkkagmkhkaaGreatDoor
namespace Go.Proofs.YtcgffkkagmkhkaaGreatDoor
open Go
def pr (who : ByteArray) : Ee → List Ee → List Gj
 | _,[]=>[]
 | p,s :: r=>Gj.mk who p s (W (s.Time.From - p.Time.To)) :: pr who s r
def prs (who : ByteArray) : List Ee → List Gj
 | []=>[]
 | p :: r=>pr who p r
theorem IR (who : ByteArray) : ∀ (r : List Ee) (p : Ee),(pr who p r).length = r.length
 | [],_=>rfl
 | s :: r,p=>by simp [pr,IR who r s]
theorem FZ (who : ByteArray) (l : List Ee) : (prs who l).length ≤ l.length:=by
 cases l with
 | nil=>simp [prs]
 | cons p r=>simp [prs,IR]
theorem pr_l {R : Type} (who : ByteArray) (r : List Ee) (hr : r.length ≤ 1000000) (j : List Gj → Option R) (F : Nat → List Gj → Int → Option R)
  (h : ∀ m x3 x4,F (m + 1) x3 x4 = if decide (x4 < (r.length : Int)) then Chk (inB (W (x4 - 1)) r.length) (Chk (inB x4 r.length) (Chk (inB x4 r.length) (Chk (inB (W (x4 - 1)) r.length) (Chk (Qa x3.length) (
   F m (x3 ++ [Gj.mk who (nth r (W (x4 - 1))) (nth r x4) (W ((nth r x4).Time.From - (nth r (W (x4 - 1))).Time.To))]) (W (x4 + 1))))))) else j x3) :
  ∀ (ys dn : List Ee) (p : Ee) (m : Nat) (x : List Gj),r = dn ++ p :: ys → ys.length < m → x.length + ys.length ≤ 100000000 → F m x ((dn.length + 1 : Nat) : Int) = j (x ++ pr who p ys)
 | [],dn,p,m,x,e,h1,_=>by
  obtain ⟨m,rfl⟩ : ∃ q,m = q + 1:=⟨m - 1,by omega⟩
  have hlen : r.length = dn.length + 1:=by rw [e]; simp
  rw [h,if_neg (by simp only [decide_eq_true_eq]; omega)]
  simp [pr]
 | y :: ys,dn,p,m,x,e,h1,h2=>by
  obtain ⟨m,rfl⟩ : ∃ q,m = q + 1:=⟨m - 1,by omega⟩
  simp only [List.length_cons] at h1 h2
  have hlen : r.length = dn.length + (ys.length + 1 + 1):=by rw [e]; simp
  have w1 : W (((dn.length + 1 : Nat) : Int) - 1) = (dn.length : Int):=by rw [Oq (by omega) (by omega)]; omega
  have w2 : W (((dn.length + 1 : Nat) : Int) + 1) = (((dn ++ [p]).length + 1 : Nat) : Int):=by rw [Oq (by omega) (by omega)]; simp
  have n1 : nth r (dn.length : Int) = p:=Xp (by rw [e]; simp)
  have n2 : nth r ((dn.length + 1 : Nat) : Int) = y:=Xp (by rw [e,List.getElem?_append_right (by omega)]; simp)
  rw [h,if_pos (by simp only [decide_eq_true_eq]; omega),w1,My (Ja.2 (by omega)),My (Ja.2 (by omega)),My (Ja.2 (by omega)),My (Ja.2 (by omega)),My (by unfold Qa; simp; omega),n1,n2,w2]
  rw [pr_l who r hr j F h ys (dn ++ [p]) y m _ (by rw [e]; simp) (by omega) (by simp; omega)]
  simp [pr]
def EU (T : List Ee) (l : List Es) (ws : List ByteArray) : List Gj:=ws.flatMap fun w=>prs w (We T l w)
theorem DW (T : List Ee) (l : List Es) (w : ByteArray) : (We T l w).length ≤ T.length:=List.length_filter_le _ _
theorem prs_l {R : Type} (who : ByteArray) (r : List Ee) (hr : r.length ≤ 10000) (j : List Gj → Option R) (F : Nat → List Gj → Int → Option R)
  (h : ∀ m x3 x4,F (m + 1) x3 x4 = if decide (x4 < (r.length : Int)) then Chk (inB (W (x4 - 1)) r.length) (Chk (inB x4 r.length) (Chk (inB x4 r.length) (Chk (inB (W (x4 - 1)) r.length) (Chk (Qa x3.length) (
   F m (x3 ++ [Gj.mk who (nth r (W (x4 - 1))) (nth r x4) (W ((nth r x4).Time.From - (nth r (W (x4 - 1))).Time.To))]) (W (x4 + 1))))))) else j x3) (x : List Gj) (hx : x.length ≤ 90000000) :
  F (((r.length : Int) - 1).toNat + 2) x 1 = j (x ++ prs who r):=by
 cases r with
 | nil =>
  rw [h,if_neg (by simp)]
  simp [prs]
 | cons p ys =>
  have:=pr_l who (p :: ys) (by omega) j F h ys [] p ((((p :: ys).length : Int) - 1).toNat + 2) x rfl (by simp) (by simp only [List.length_cons] at hr; omega)
  simpa [prs] using this
theorem CT (T : List Ee) (l : List Es) (hl : l.length ≤ 2000) (hT : T.length ≤ 10000) (hc : ∀ w,Mk (Jq T) l w = some (We T l w)) : ∀ (ys dn : List Es) (c : Es) (x : List Gj),l = dn ++ c :: ys → x.length ≤ 10000 * (dn.length + 1) →
  Ho T l (fun x=>some x) ys (dn.length + 1) x = some (x ++ EU T l (nbF c.Who (ys.map (·.Who))))
 | [],dn,c,x,_,_=>by simp [Ho,EU,nbF]
 | y :: ys,dn,c,x,e,hx=>by
  have hlen : l.length = dn.length + (ys.length + 1 + 1):=by rw [e]; simp
  have w1 : W (((dn.length + 1 : Nat) : Int) - 1) = (dn.length : Int):=by rw [Oq (by omega) (by omega)]; omega
  have n1 : nth l (dn.length : Int) = c:=Xp (by rw [e]; simp)
  have hd : (dn ++ [c]).length = dn.length + 1:=by simp
  rw [Ho]
  simp only [Lv]
  rw [if_pos (decide_eq_true (by omega)),w1,My (Ja.2 (by omega)),n1,decide_eq_true (show 0 < ((dn.length + 1 : Nat) : Int) by omega)]
  simp only [Bool.true_and,List.map_cons,nbF]
  have hm:=DW T l y.Who
  have hp:=FZ y.Who (We T l y.Who)
  by_cases hy : c.Who = y.Who
  ·have ih:=CT T l hl hT hc ys (dn ++ [c]) y x (by rw [e]; simp) (by rw [hd]; omega)
   rw [hd] at ih
   rw [if_pos (decide_eq_true hy),if_pos hy.symm,ih]
  ·have ih:=CT T l hl hT hc ys (dn ++ [c]) y (x ++ prs y.Who (We T l y.Who)) (by rw [e]; simp) (by rw [hd,List.length_append]; omega)
   rw [hd] at ih
   rw [if_neg (by simpa using hy),if_neg (fun h=>hy h.symm),hc]
   simp only [Option.bind_some]
   rw [prs_l y.Who (We T l y.Who) (by omega) _ (Jr (We T l y.Who) y fun (x3 : List Gj)=>Ho T l (fun x=>some x) ys (dn.length + 1 + 1) x3) (fun _ _ _=>rfl) x (by omega),ih]
   simp [EU]
theorem IS (T : List Ee) (l : List Es) (hl : l.length ≤ 2000) (hT : T.length ≤ 10000) (hc : ∀ w,Mk (Jq T) l w = some (We T l w)) : Qe T l = some (EU T l (nb (l.map (·.Who)))):=by
 unfold Qe
 rw [Lv]
 cases l with
 | nil=>rfl
 | cons y ys =>
  have hm:=DW T (y :: ys) y.Who
  have hp:=FZ y.Who (We T (y :: ys) y.Who)
  rw [Ho]
  simp only [Lv]
  rw [if_neg (by simp),if_neg (by simp),hc]
  simp only [Option.bind_some]
  rw [prs_l y.Who (We T (y :: ys) y.Who) (by omega) _ (Jr (We T (y :: ys) y.Who) y fun (x3 : List Gj)=>Ho T (y :: ys) (fun x=>some x) ys (0 + 1) x3) (fun _ _ _=>rfl) [] (by simp)]
  have:=CT T (y :: ys) hl hT hc ys [] y ([] ++ prs y.Who (We T (y :: ys) y.Who)) rfl (by simp; omega)
  rw [List.length_nil] at this
  rw [this]
  simp [EU,nb]
end Go.Proofs.YtcgffkkagmkhkaaGreatDoor
namespace Go.Proofs.YtcgffkkagmkhkaaGreatDoor
open Go
end Go.Proofs.YtcgffkkagmkhkaaGreatDoor
namespace Go.Proofs.YtcgffkkagmkhkaaGreatDoor
open Go
def Dr {α : Type} (a k : Int) (Q : α → Prop) (o : Option (α × Int)) : Prop:=∃ v b,o = some (v,b) ∧ a ≤ b ∧ b ≤ a + k ∧ Q v
abbrev AJ (L : List Int) : Prop:=(L.length : Int) ≤ 9223372036854775807
section
variable {L : List Int} (hL : AJ L) {a : Int} (h0 : 0 ≤ a) (h1 : a ≤ 1000000000000)
include hL h0 h1
theorem next_dr (n : Int) (hn : n ≤ 4611686018427387904) : Dr a 1 (fun v=>0 ≤ v ∧ (v < n ∨ (n < 1 ∧ v = 0))) (Li L a n):=by
 obtain ⟨v,e,g⟩:=Vx L a n h0 (by omega) hL hn
 exact ⟨v,a + 1,e,by omega,by omega,g⟩
theorem Xq (l : List Int) (hl : 0 < l.length) (hl' : l.length ≤ 1000) : Dr a 1 (fun v=>v ∈ l) (Lp L a l):=by
 obtain ⟨v,e,g⟩:=CM L a l h0 (by omega) hL hl hl'
 exact ⟨v,a + 1,e,by omega,by omega,g⟩
theorem Zl (n : Int) (hn : n ≤ 4611686018427387904) : Dr a 1 (fun _=>True) (Lo L a n):=by
 obtain ⟨v,e⟩:=CN L a n h0 (by omega) hL hn
 exact ⟨v,a + 1,e,by omega,by omega,trivial⟩
theorem some_dr (l : List ByteArray) (hl : 0 < l.length) (hl' : l.length ≤ 1000) : Dr a 1 (fun v=>v ∈ l) (Pl L a l):=by
 obtain ⟨v,e1,h1,h2⟩:=Vx L a (l.length : Int) h0 (by omega) hL (by omega)
 have hc : inB v l.length = true:=Ja.2 ⟨h1,by omega⟩
 unfold Pl
 rw [e1]
 simp only [Option.bind_some]
 rw [Nt hc]
 exact ⟨nth l v,a + 1,rfl,by omega,by omega,List.mem_of_getElem? (El hc).1⟩
theorem DX (low high : Int) (h2 : -1000000000000 ≤ low) (h3 : low ≤ 1000000000000) (h4 : high ≤ 1000000000000) : Dr a 1 (fun v=>low ≤ v ∧ (v ≤ high ∨ v = low)) (Oi L a low high):=by
 unfold Oi
 by_cases h : high < low
 ·exact ⟨low,a,by simp [h],by omega,by omega,by omega,.inr rfl⟩
 ·have w1 : W (high - low) = high - low:=Oq (by omega) (by omega)
  have w2 : W (high - low + 1) = high - low + 1:=Oq (by omega) (by omega)
  obtain ⟨v,e,g1,g2⟩:=Vx L a (high - low + 1) h0 (by omega) hL (by omega)
  rw [if_neg (by simpa using h),w1,w2,e]
  have w3 : W (low + v) = low + v:=Oq (by omega) (by omega)
  exact ⟨_,_,rfl,by show a ≤ a + 1; omega,by show a + 1 ≤ a + 1; omega,by simp only [w3]; omega⟩
theorem odd_dr (low high : Int) (h2 : -1000000000000 ≤ low) (h3 : low ≤ 1000000000000) (h4 : high ≤ 1000000000000) : Dr a 2 (fun _=>True) (Me L a low high):=by
 obtain ⟨b,e1⟩:=CN L a 12 h0 (by omega) hL (by omega)
 unfold Me
 rw [e1]
 simp only [Option.bind_some]
 cases b with
 | true =>
  obtain ⟨v,e,_⟩:=CM L (a + 1) [W (low - 1),W (high + 1),low,high,(-1099511627776),1099511627776] (by omega) (by omega) hL (by simp) (by simp)
  rw [if_pos rfl,e]
  exact ⟨_,_,rfl,by show a ≤ a + 1 + 1; omega,by show a + 1 + 1 ≤ a + 2; omega,trivial⟩
 | false =>
  unfold Oi
  by_cases h : high < low
  ·rw [if_neg (by simp),if_pos (by simpa using h)]
   exact ⟨_,_,rfl,by show a ≤ a + 1; omega,by show a + 1 ≤ a + 2; omega,trivial⟩
  ·have w1 : W (high - low) = high - low:=Oq (by omega) (by omega)
   have w2 : W (high - low + 1) = high - low + 1:=Oq (by omega) (by omega)
   obtain ⟨v,e,g1,g2⟩:=Vx L (a + 1) (high - low + 1) (by omega) (by omega) hL (by omega)
   rw [if_neg (by simp),if_neg (by simpa using h),w1,w2,e]
   exact ⟨_,_,rfl,by show a ≤ a + 1 + 1; omega,by show a + 1 + 1 ≤ a + 2; omega,trivial⟩
end
end Go.Proofs.YtcgffkkagmkhkaaGreatDoor
namespace Go.Proofs.YtcgffkkagmkhkaaGreatDoor
open Go
def ltI (x y : Ed) : Bool:=decide (Ir x y < 0)
theorem GV (l : List Ed) (hl : l.length ≤ 12) : Gi l 0 (l.length : Int) = some (Lw ltI l):=by
 unfold Gi
 simp only [Lv]
 have hins : ∀ (k : List Ed → Option (List Ed)) (rp : List Ed) (x : Ed) (post : List Ed),((rp ++ x :: post).length : Int) = (l.length : Int) → (∀ y,y ∈ rp ∨ y = x ∨ y ∈ post → y ∈ (rp ++ x :: post)) →
   Ep 0 k (((rp.length : Int) - 0).toNat + 2) (rp.reverse ++ x :: post) (rp.length : Int) = k ((Sy ltI x rp).reverse ++ post):=by
  intro k rp x post h1 _
  exact FU (fun x y k=>k (ltI x y)) ltI k (Ep 0 k) (fun _ _ _=>rfl) rp x post _ (by omega) (by simp at h1; omega) fun y _ k'=>rfl
 cases l with
 | nil=>rfl
 | cons x l =>
  have hw : W (0 + 1) = (([x] : List Ed).length : Int):=rfl
  rw [hw]
  exact Zk ltI (fun x=>some x) (fun k x i=>Ep 0 k ((i - 0).toNat + 2) x i) (Ex ((x :: l).length : Int) 0 fun x=>some x) ((x :: l).length : Int) (fun _ _ _=>rfl)
   (fun k rp x post h1 h2=>hins k rp x post h1 h2) l [x] _ (by simp only [List.length_cons,List.length_nil]; omega) (by simp only [List.length_cons,List.length_nil]; omega) (by simp only [List.length_cons,List.length_nil] at hl ⊢; omega)
theorem IT (l : List Ed) (hl : l.length ≤ 12) : Hd l = some (Lw ltI l):=by
 unfold Hd
 have h:=len13 ⟨l.length,by omega⟩
 obtain ⟨r,hr⟩:=Option.isSome_iff_exists.1 h
 simp only at hr
 rw [hr]
 simp only [Option.bind_some]
 unfold Hg
 rw [show (4611686018427387904 : Nat) = 4611686018427387903 + 1 from rfl,Fl,Oq (by omega) (by omega),if_pos (decide_eq_true (by omega)),GV l hl]
 rfl
theorem imin3 (n : Int) : Tl n 3 ≤ 3:=by
 unfold Tl
 split <;> omega
section
variable {L : List Int} (hL : AJ L)
include hL
omit hL in
theorem IU (who : ByteArray) : (([Pi,Pj,Pk] : List ByteArray).filter fun w=>decide (w = who)).length ≤ 1:=by
 by_cases h1 : Pi = who
 ·subst h1; decide +kernel
 ·by_cases h2 : Pj = who
  ·subst h2; decide +kernel
  ·by_cases h3 : Pk = who
   ·subst h3; decide +kernel
   ·simp [h1,h2,h3]
end
end Go.Proofs.YtcgffkkagmkhkaaGreatDoor
namespace Go.Proofs.YtcgffkkagmkhkaaGreatDoor
open Go

theorem EV (a b : List Ee) (t : Int) : Om (a ++ b) t = Om b (Om a t):=by
 unfold Om
 rcases List.eq_nil_or_concat b with rfl | ⟨pre,s,rfl⟩
 ·simp
 ·simp [← List.append_assoc]
def nt : List Ed → Int → Int
 | [],t=>t
 | y :: ys,t=>nt ys (Sa y y.Heats.toNat t + y.Break)
theorem GW (y : Ed) (k : Nat) (h t u : Int) : Om (hs y (k + 1) h t) u = Sa y (k + 1) t:=by
 obtain ⟨pre,s,e1,e2⟩:=FN y k h t
 rw [e1,← e2]
 simp [Om]
theorem AK : ∀ (l : List Ed) (t : Int),(∀ x ∈ l,Oa x) → t ≤ nt l t ∧ Om (tt l t) t ≤ nt l t
 | [],t,_=>⟨Int.le_refl _,Int.le_refl _⟩
 | y :: l,t,hg=>by
  have hy:=hg y List.mem_cons_self
  have hgood:=hy
  unfold Oa at hgood
  have hb:=Qr y hy y.Heats.toNat t
  obtain ⟨h1,h2⟩:=AK l (Sa y y.Heats.toNat t + y.Break) (fun x hx=>hg x (List.mem_cons_of_mem _ hx))
  obtain ⟨k,hk⟩ : ∃ k,y.Heats.toNat = k + 1:=⟨y.Heats.toNat - 1,by omega⟩
  simp only [nt,tt]
  refine ⟨by omega,?_⟩
  rw [EV,hk,GW,← hk]
  cases hl : tt l (Sa y y.Heats.toNat t + y.Break) with
  | nil=>simp only [Om,List.getLast?_nil]; omega
  | cons a r =>
   have e : ∀ u v,Om (a :: r) u = Om (a :: r) v:=fun u v=>by
    unfold Om
    cases hx : (a :: r).getLast? with
    | none=>simp at hx
    | some _=>rfl
   rw [hl] at h2
   rw [e _ (Sa y y.Heats.toNat t + y.Break)]
   exact h2
def ends (l : List Ed) (t : Int) (n : Nat) : Int:=Om (tt (l.take n) t) t
end Go.Proofs.YtcgffkkagmkhkaaGreatDoor
