/- Sorting,striking and thinning out,to the element. No program stands here. -/
import Derived.Test.YtgfjjiheamdgbaaGreatDoorTw
namespace Go.Proofs.YtgfjjiheamdgbaaGreatDoor
open Go

theorem Nd {R : Type} {c : Bool} {k : Option R} (h : c = true) : Chk c k = k:=by simp [Chk,h]
theorem Rk {κ R : Type} (K : κ) (f : κ → R) : Es K f = f K:=rfl
theorem Ve {x n : Int} (hn : 0 < n) : -n < Int.tmod x n ∧ Int.tmod x n < n:=by
 have h1:=Int.tmod_lt_of_pos x hn
 have h2:=Int.tmod_lt_of_pos (-x) hn
 rw [Int.neg_tmod] at h2
 omega
theorem Wz (x n : Int) (hn : n ≤ 4611686018427387904) : ∃ v,Kp x n = some v ∧ 0 ≤ v ∧ (v < n ∨ (n < 1 ∧ v = 0)):=by
 unfold Kp
 by_cases h : n < 1
 ·exact ⟨0,by simp [h],Int.le_refl _,.inr ⟨h,rfl⟩⟩
 ·have h1:=Ve (x:=x) (n:=n) (by omega)
  have h0 : ¬ n = 0:=by omega
  simp only [decide_eq_true_eq,h,if_false,Es]
  rw [Nd (by simp [h0])]
  by_cases h2 : Int.tmod x n < 0
  ·rw [if_pos h2,Hv (by omega) (by omega)]
   exact ⟨_,rfl,by omega,.inl (by omega)⟩
  ·rw [if_neg h2]
   exact ⟨_,rfl,by omega,.inl (by omega)⟩
theorem Su (L : List Int) (a n : Int) (ha : 0 ≤ a) (ha' : a ≤ 4611686018427387904) (hL : (L.length : Int) ≤ 9223372036854775807) (hn : n ≤ 4611686018427387904) :
  ∃ v,Jf L a n = some (v,a + 1) ∧ 0 ≤ v ∧ (v < n ∨ (n < 1 ∧ v = 0)):=by
 have w1 : W (a + 1) = a + 1:=Hv (by omega) (by omega)
 have w2 : W (a + 1 - 1) = a:=by rw [show a + 1 - 1 = a by omega]; exact Hv (by omega) (by omega)
 unfold Jf
 rw [w1,w2]
 by_cases h : (L.length : Int) = 0
 ·obtain ⟨v,h1,h2,h3⟩:=Wz (W ((a + 1) * 7919)) n hn
  exact ⟨v,by simp [h,h1],h2,h3⟩
 ·have h0 : 0 < (L.length : Int):=by omega
  have hm:=Ve (x:=a) h0
  have hm0 : 0 ≤ Int.tmod a (L.length : Int):=Int.tmod_nonneg _ ha
  have hc : inB (Int.tmod a (L.length : Int)) L.length = true:=Fh.2 ⟨hm0,hm.2⟩
  obtain ⟨v1,e1,_,_⟩:=Wz (nth L (Int.tmod a (L.length : Int))) 1073741824 (by omega)
  simp only [decide_eq_true_eq,h,if_false]
  rw [Nd (by simp),Nd (by simp),Nd hc,e1]
  simp only [Option.bind_some]
  obtain ⟨v2,e2,g1,g2⟩:=Wz (W (v1 + W (W (Int.tdiv a (L.length : Int)) * W (7919 + Int.tmod a (L.length : Int))))) n hn
  exact ⟨v2,by rw [e2]; rfl,g1,g2⟩
theorem BU (L : List Int) (a : Int) (l : List Int) (ha : 0 ≤ a) (ha' : a ≤ 4611686018427387904) (hL : (L.length : Int) ≤ 9223372036854775807) (hl : 0 < l.length) (hl' : l.length ≤ 1000) :
  ∃ v,Jg L a l = some (v,a + 1) ∧ v ∈ l:=by
 obtain ⟨v,h1,h2,h3⟩:=Su L a (l.length : Int) ha ha' hL (by omega)
 have h4 : v < (l.length : Int):=by omega
 have hc : inB v l.length = true:=Fh.2 ⟨h2,h4⟩
 unfold Jg
 rw [h1]
 simp only [Option.bind_some]
 rw [Nd hc]
 exact ⟨nth l v,rfl,List.mem_of_getElem? (Ct hc).1⟩
theorem BV (L : List Int) (a n : Int) (ha : 0 ≤ a) (ha' : a ≤ 4611686018427387904) (hL : (L.length : Int) ≤ 9223372036854775807) (hn : n ≤ 4611686018427387904) : ∃ b,Iv L a n = some (b,a + 1):=by
 obtain ⟨v,h1,_,_⟩:=Su L a n ha ha' hL hn
 unfold Iv
 rw [h1]
 exact ⟨_,rfl⟩
end Go.Proofs.YtgfjjiheamdgbaaGreatDoor
namespace Go.Proofs.YtgfjjiheamdgbaaGreatDoor
open Go
def Dr {α : Type} (a k : Int) (Q : α → Prop) (o : Option (α × Int)) : Prop:=∃ v b,o = some (v,b) ∧ a ≤ b ∧ b ≤ a + k ∧ Q v
abbrev Xy (L : List Int) : Prop:=(L.length : Int) ≤ 9223372036854775807
section
variable {L : List Int} (hL : Xy L) {a : Int} (h0 : 0 ≤ a) (h1 : a ≤ 1000000000000)
include hL h0 h1
theorem Za (n : Int) (hn : n ≤ 4611686018427387904) : Dr a 1 (fun v=>0 ≤ v ∧ (v < n ∨ (n < 1 ∧ v = 0))) (Jf L a n):=by
 obtain ⟨v,e,g⟩:=Su L a n h0 (by omega) hL hn
 exact ⟨v,a + 1,e,by omega,by omega,g⟩
theorem Rl (l : List Int) (hl : 0 < l.length) (hl' : l.length ≤ 1000) : Dr a 1 (fun v=>v ∈ l) (Jg L a l):=by
 obtain ⟨v,e,g⟩:=BU L a l h0 (by omega) hL hl hl'
 exact ⟨v,a + 1,e,by omega,by omega,g⟩
theorem Ro (n : Int) (hn : n ≤ 4611686018427387904) : Dr a 1 (fun _=>True) (Iv L a n):=by
 obtain ⟨v,e⟩:=BV L a n h0 (by omega) hL hn
 exact ⟨v,a + 1,e,by omega,by omega,trivial⟩
theorem Nf (l : List ByteArray) (hl : 0 < l.length) (hl' : l.length ≤ 1000) : Dr a 1 (fun v=>v ∈ l) (Gw L a l):=by
 obtain ⟨v,e1,h1,h2⟩:=Su L a (l.length : Int) h0 (by omega) hL (by omega)
 have hc : inB v l.length = true:=Fh.2 ⟨h1,by omega⟩
 unfold Gw
 rw [e1]
 simp only [Option.bind_some]
 rw [Nd hc]
 exact ⟨nth l v,a + 1,rfl,by omega,by omega,List.mem_of_getElem? (Ct hc).1⟩
theorem Zz (low high : Int) (h2 : -1000000000000 ≤ low) (h3 : low ≤ 1000000000000) (h4 : high ≤ 1000000000000) : Dr a 1 (fun v=>low ≤ v ∧ (v ≤ high ∨ v = low)) (Kz L a low high):=by
 unfold Kz
 by_cases h : high < low
 ·exact ⟨low,a,by simp [h],by omega,by omega,by omega,.inr rfl⟩
 ·have w1 : W (high - low) = high - low:=Hv (by omega) (by omega)
  have w2 : W (high - low + 1) = high - low + 1:=Hv (by omega) (by omega)
  obtain ⟨v,e,g1,g2⟩:=Su L a (high - low + 1) h0 (by omega) hL (by omega)
  rw [if_neg (by simpa using h),w1,w2,e]
  have w3 : W (low + v) = low + v:=Hv (by omega) (by omega)
  exact ⟨_,_,rfl,by show a ≤ a + 1; omega,by show a + 1 ≤ a + 1; omega,by simp only [w3]; omega⟩
theorem Ux (low high : Int) (h2 : -1000000000000 ≤ low) (h3 : low ≤ 1000000000000) (h4 : high ≤ 1000000000000) : Dr a 2 (fun _=>True) (Jl L a low high):=by
 obtain ⟨b,e1⟩:=BV L a 12 h0 (by omega) hL (by omega)
 unfold Jl
 rw [e1]
 simp only [Option.bind_some]
 cases b with
 | true =>
  obtain ⟨v,e,_⟩:=BU L (a + 1) [W (low - 1),W (high + 1),low,high,(-1099511627776),1099511627776] (by omega) (by omega) hL (by simp) (by simp)
  rw [if_pos rfl,e]
  exact ⟨_,_,rfl,by show a ≤ a + 1 + 1; omega,by show a + 1 + 1 ≤ a + 2; omega,trivial⟩
 | false =>
  unfold Kz
  by_cases h : high < low
  ·rw [if_neg (by simp),if_pos (by simpa using h)]
   exact ⟨_,_,rfl,by show a ≤ a + 1; omega,by show a + 1 ≤ a + 2; omega,trivial⟩
  ·have w1 : W (high - low) = high - low:=Hv (by omega) (by omega)
   have w2 : W (high - low + 1) = high - low + 1:=Hv (by omega) (by omega)
   obtain ⟨v,e,g1,g2⟩:=Su L (a + 1) (high - low + 1) (by omega) (by omega) hL (by omega)
   rw [if_neg (by simp),if_neg (by simpa using h),w1,w2,e]
   exact ⟨_,_,rfl,by show a ≤ a + 1 + 1; omega,by show a + 1 + 1 ≤ a + 2; omega,trivial⟩
end
end Go.Proofs.YtgfjjiheamdgbaaGreatDoor
namespace Go.Proofs.YtgfjjiheamdgbaaGreatDoor
open Go
end Go.Proofs.YtgfjjiheamdgbaaGreatDoor
namespace Go.Proofs.YtgfjjiheamdgbaaGreatDoor
open Go
theorem BW : ∀ l : List UInt8,Lib.compareBytes l l = 0
 | []=>rfl
 | a :: l=>by
  rw [Lib.compareBytes,if_neg (by simp),if_neg (by simp)]; exact BW l
theorem BX : ∀ l m : List UInt8,Lib.compareBytes l m = 0 → l = m
 | [],[],_=>rfl
 | [],_ :: _,h=>by simp [Lib.compareBytes] at h
 | _ :: _,[],h=>by simp [Lib.compareBytes] at h
 | a :: l,b :: m,h=>by
  rw [Lib.compareBytes] at h
  split at h
  ·cases h
  ·split at h
   ·cases h
   ·rename_i h1 h2
    rw [UInt8.lt_iff_toNat_lt] at h1 h2
    rw [BX l m h,show a = b from UInt8.toNat_inj.1 (by omega)]
theorem EF : ∀ l m : List UInt8,Lib.compareBytes l m = -1 ∨ Lib.compareBytes l m = 0 ∨ Lib.compareBytes l m = 1
 | [],[]=>.inr (.inl rfl)
 | [],_ :: _=>.inl rfl
 | _ :: _,[]=>.inr (.inr rfl)
 | a :: l,b :: m=>by
  rw [Lib.compareBytes]
  split
  ·exact .inl rfl
  ·split
   ·exact .inr (.inr rfl)
   ·exact EF l m
theorem BY : ∀ l m : List UInt8,Lib.compareBytes m l = - Lib.compareBytes l m
 | [],[]=>rfl
 | [],_ :: _=>rfl
 | _ :: _,[]=>rfl
 | a :: l,b :: m=>by
  rw [Lib.compareBytes,Lib.compareBytes,BY l m]
  simp only [UInt8.lt_iff_toNat_lt]
  by_cases h1 : a.toNat < b.toNat
  ·rw [if_neg (by omega),if_pos h1,if_pos h1]; rfl
  ·by_cases h2 : b.toNat < a.toNat
   ·rw [if_pos h2,if_neg h1,if_pos h2]
   ·rw [if_neg h2,if_neg h1,if_neg h1,if_neg h2]
theorem AA : ∀ l m k : List UInt8,Lib.compareBytes l m < 0 → Lib.compareBytes m k < 0 → Lib.compareBytes l k < 0
 | l,m,[],_,h=>by cases m <;> simp [Lib.compareBytes] at h
 | [],m,c :: k,_,_=>by simp [Lib.compareBytes]
 | a :: l,[],c :: k,h,_=>by simp [Lib.compareBytes] at h
 | a :: l,b :: m,c :: k,h1,h2=>by
  rw [Lib.compareBytes] at h1 h2 ⊢
  simp only [UInt8.lt_iff_toNat_lt] at h1 h2 ⊢
  by_cases g1 : a.toNat < b.toNat
  ·by_cases g2 : c.toNat < b.toNat
   ·rw [if_neg (by omega),if_pos g2] at h2; cases h2
   ·rw [if_pos (by omega)]; decide
  ·by_cases g1' : b.toNat < a.toNat
   ·rw [if_neg g1,if_pos g1'] at h1; cases h1
   ·rw [if_neg g1,if_neg g1'] at h1
    by_cases g2 : b.toNat < c.toNat
    ·rw [if_pos (by omega)]; decide
    ·by_cases g3 : c.toNat < b.toNat
     ·rw [if_neg g2,if_pos g3] at h2; cases h2
     ·rw [if_neg g2,if_neg g3] at h2
      rw [if_neg (by omega),if_neg (by omega)]
      exact AA l m k h1 h2
def cB (s t : ByteArray) : Int:=Lib.compareBytes s.data.toList t.data.toList
theorem Oc (s : ByteArray) : cB s s = 0:=BW _
theorem Ue {s t : ByteArray} (h : cB s t = 0) : s = t:=by
 have:=BX _ _ h
 cases s; cases t
 simpa using this
theorem cB_eq {s t : ByteArray} : cB s t = 0 ↔ s = t:=⟨Ue,fun h=>by rw [h]; exact Oc t⟩
theorem BE (s t : ByteArray) : cB s t = -1 ∨ cB s t = 0 ∨ cB s t = 1:=EF _ _
theorem cB_flip (s t : ByteArray) : cB t s = - cB s t:=BY _ _
theorem EG {s t u : ByteArray} (h1 : cB s t < 0) (h2 : cB t u < 0) : cB s u < 0:=AA _ _ _ h1 h2
end Go.Proofs.YtgfjjiheamdgbaaGreatDoor
namespace Go.Proofs.YtgfjjiheamdgbaaGreatDoor
open Go

theorem Zb {l : List UInt8} {c : UInt8} : decide (Lib.indexByte l c < 0) = !l.contains c:=by
 have key : ∀ l : List UInt8,(Lib.indexByte l c = -1 ∧ l.contains c = false) ∨ (0 ≤ Lib.indexByte l c ∧ l.contains c = true):=by
  intro l
  induction l with
  | nil=>exact .inl ⟨rfl,rfl⟩
  | cons b l ih =>
   by_cases hb : b = c
   ·subst hb; exact .inr (by simp [Lib.indexByte])
   ·have hb' : (b == c) = false:=by simpa using hb
    have hc : (c == b) = false:=by simpa using fun h=>hb h.symm
    rcases ih with ⟨h1,h2⟩ | ⟨h1,h2⟩
    ·refine .inl ⟨by simp [Lib.indexByte,hb',h1],?_⟩
     rw [List.contains_cons,hc,h2]; rfl
    ·have h3 : ¬ Lib.indexByte l c = -1:=by omega
     refine .inr ⟨by simp [Lib.indexByte,hb',h3]; omega,?_⟩
     rw [List.contains_cons,hc,h2]; rfl
 rcases key l with ⟨h1,h2⟩ | ⟨h1,h2⟩
 ·rw [h1,h2]; rfl
 ·rw [h2]; simp; omega
theorem CX (u : UInt8) : ((u.toNat : Int)).toNat.toUInt8 = u:=by simp
theorem Qs (s : ByteArray) : s.size = s.data.toList.length:=by rw [ByteArray.size,Array.length_toList]
theorem Xz {s : ByteArray} {j : Nat} {u : UInt8} (h : s.data.toList[j]? = some u) : Rv s (j : Int) = (u.toNat : Int):=by
 unfold Rv
 rw [Int.toNat_natCast]
 simp [List.getD,h]
theorem CY (s some_ : ByteArray) : ∀ (k : Nat) (m : Nat),k + m = s.size + 1 → s.size ≤ 4611686018427387904 →
  Hn s some_ (some true) (m + 1) (k : Int) = some ((s.data.toList.drop k).all fun b=>some_.data.toList.contains b):=by
 intro k m
 induction m generalizing k with
 | zero =>
  intro h hs
  have h1 : ¬ (k : Int) < (s.size : Int):=by omega
  rw [Hn]
  rw [if_neg (by simpa using h1),List.drop_of_length_le (by rw [← Qs]; omega)]
  rfl
 | succ m ih =>
  intro h hs
  rw [Hn]
  by_cases h1 : (k : Int) < (s.size : Int)
  ·have hk : k < s.data.toList.length:=by rw [← Qs]; omega
   have hget : s.data.toList[k]? = some s.data.toList[k]:=List.getElem?_eq_getElem hk
   rw [if_pos (decide_eq_true h1),Nd (Fh.2 ⟨by omega,h1⟩),List.drop_eq_getElem_cons hk,List.all_cons]
   have hb : decide (Mh some_ (Rv s (k : Int)) < 0) = !some_.data.toList.contains s.data.toList[k]:=by
    unfold Mh
    rw [Xz hget,CX,Zb]
   rw [hb]
   cases hc : some_.data.toList.contains s.data.toList[k] with
   | false=>simp
   | true =>
    simp only [Bool.not_true,Bool.false_eq_true,if_false,Bool.true_and]
    have hw : W ((k : Int) + 1) = ((k + 1 : Nat) : Int):=by rw [Hv (by omega) (by omega)]; omega
    rw [hw]
    exact ih (k + 1) (by omega) hs
  ·rw [if_neg (by simpa using h1),List.drop_of_length_le (by rw [← Qs]; omega)]
   rfl
theorem BZ (s some_ : ByteArray) (hs : s.size ≤ 4611686018427387904) : Ma s some_ = some (s.data.toList.all fun b=>some_.data.toList.contains b):=by
 unfold Ma
 rw [Rk]
 have h:=CY s some_ 0 (s.size + 1) (by omega) hs
 have e : ((s.size : Int) - 0).toNat + 2 = s.size + 1 + 1:=by omega
 rw [e]
 exact h
theorem Oo {p : UInt8 → Bool} : ∀ {l : List UInt8},l.dropWhile p = [] ↔ l.all p = true
 | []=>by simp
 | a :: l=>by
  rw [List.dropWhile_cons,List.all_cons]
  cases h : p a with
  | true=>simpa [h] using Oo (p:=p) (l:=l)
  | false=>simp
theorem EH {l cs : List UInt8} : Lib.trimS l cs = [] ↔ l.all (fun b=>cs.contains b) = true:=by
 unfold Lib.trimS Lib.trimLeftS Lib.trimRightS
 rw [Oo,List.all_reverse]
 constructor
 ·intro h
  have h2 : l.reverse.dropWhile (fun x=>cs.contains x) = []:=by
   cases hd : l.reverse.dropWhile (fun x=>cs.contains x) with
   | nil=>rfl
   | cons a r =>
    have h3:=List.head_dropWhile_not (fun x=>cs.contains x) (l:=l.reverse) (by rw [hd]; simp)
    rw [hd] at h
    simp only [hd,List.head_cons] at h3
    rw [List.all_cons,h3] at h
    cases h
  rw [Oo,List.all_reverse] at h2
  exact h2
 ·intro h
  have h2 : l.reverse.dropWhile (fun x=>cs.contains x) = []:=by rw [Oo,List.all_reverse]; exact h
  rw [h2]; rfl
end Go.Proofs.YtgfjjiheamdgbaaGreatDoor
namespace Go.Proofs.YtgfjjiheamdgbaaGreatDoor
open Go

theorem CZ (u : UInt8) : Ha.data.toList.contains u = (decide (97 ≤ (u.toNat : Int)) && decide ((u.toNat : Int) ≤ 122)):=by
 have key : ∀ n : Fin 256,Ha.data.toList.contains (UInt8.ofNat n.val) = (decide (97 ≤ (((UInt8.ofNat n.val).toNat : Nat) : Int)) && decide ((((UInt8.ofNat n.val).toNat : Nat) : Int) ≤ 122)):=by decide +kernel
 have h:=key ⟨u.toNat,u.toNat_lt⟩
 simpa using h
theorem DA : (Ez.data.toList.all fun b=>decide (b.toNat < 128)) = true:=by decide +kernel
theorem DB (l : List UInt8) : ((⟨l.toArray⟩ : ByteArray) = Cj) ↔ l = []:=by
 constructor
 ·intro h
  have h2:=congrArg (fun b : ByteArray=>b.data.toList) h
  simpa [Cj] using h2
 ·rintro rfl; rfl
theorem Pp (s : ByteArray) : ∃ b,Jt s = some b ∧ Ic s = some b:=by
 by_cases hs : 1 ≤ s.size ∧ s.size ≤ 40
 ·obtain ⟨h1,h2⟩:=hs
  have hsz:=Qs s
  obtain ⟨u,r,hl⟩ : ∃ u r,s.data.toList = u :: r:=by
   cases h : s.data.toList with
   | nil=>rw [h] at hsz; exact absurd hsz (by show ¬ s.size = 0; omega)
   | cons u r=>exact ⟨u,r,rfl⟩
  have hin : Em (s.size : Int) 1 40 = true:=by unfold Em; simp; omega
  have hwin : (decide (1 ≤ (s.size : Int)) && decide ((s.size : Int) ≤ 40)) = true:=by simp; omega
  have hb0 : inB 0 s.size = true:=Fh.2 ⟨by omega,by omega⟩
  have hc0 : Pf 0 1 s.size = true:=Ko.2 ⟨by omega,by omega,by omega⟩
  have hu : Rv s 0 = (u.toNat : Int):=Xz (j:=0) (by rw [hl]; rfl)
  have hcut : (Zk s 0 1).data.toList = [u]:=by
   unfold Zk
   simp [hl]
  have hcsz : (Zk s 0 1).size ≤ 4611686018427387904:=by rw [Qs,hcut]; simp
  have hall:=BZ s Ez (by omega)
  have hone:=BZ (Zk s 0 1) Ha hcsz
  rw [hcut] at hone
  simp only [List.all_cons,List.all_nil,Bool.and_true,CZ] at hone
  have htrim : Nx s Ez = some ⟨(Lib.trimS s.data.toList Ez.data.toList).toArray⟩:=by
   unfold Nx
   rw [Nd (by simp; omega),Nd (by decide +kernel),Nd DA]
  have htr : decide ((⟨(Lib.trimS s.data.toList Ez.data.toList).toArray⟩ : ByteArray) = Cj) = s.data.toList.all fun b=>Ez.data.toList.contains b:=by
   rw [Bool.eq_iff_iff,decide_eq_true_eq,DB,EH]
  refine ⟨(decide (97 ≤ (u.toNat : Int)) && decide ((u.toNat : Int) ≤ 122)) && s.data.toList.all fun b=>Ez.data.toList.contains b,?_,?_⟩
  ·unfold Jt
   simp only [Rk,hwin,if_true,Bool.true_and,Nd hb0,hu]
   by_cases g1 : 97 ≤ (u.toNat : Int)
   ·simp only [g1,decide_true,if_true,Bool.true_and]
    by_cases g2 : (u.toNat : Int) ≤ 122
    ·simp only [g2,decide_true,if_true,Bool.true_and,htrim,Option.bind_some,htr]
    ·simp only [g2,decide_false,Bool.false_eq_true,if_false,Bool.false_and]
   ·simp only [g1,decide_false,Bool.false_eq_true,if_false,Bool.false_and]
  ·unfold Ic
   simp only [Rk,hin,if_true,Bool.true_and,Nd hc0,hone,Option.bind_some]
   cases hz : (decide (97 ≤ (u.toNat : Int)) && decide ((u.toNat : Int) ≤ 122)) with
   | true=>simp only [if_true,hall,Option.bind_some,Bool.true_and]
   | false=>simp only [Bool.false_eq_true,if_false,Bool.false_and]
 ·refine ⟨false,?_,?_⟩
  ·have hwin : (decide (1 ≤ (s.size : Int)) && decide ((s.size : Int) ≤ 40)) = false:=by simp; omega
   unfold Jt
   simp only [Rk,hwin,Bool.false_eq_true,if_false,Bool.false_and]
  ·have hin : Em (s.size : Int) 1 40 = false:=by unfold Em; simp; omega
   unfold Ic
   simp only [Rk,hin,Bool.false_eq_true,if_false,Bool.false_and]
end Go.Proofs.YtgfjjiheamdgbaaGreatDoor
namespace Go.Proofs.YtgfjjiheamdgbaaGreatDoor
open Go
theorem EI {s : ByteArray} (h : Ic s = some true) : 1 ≤ s.size:=by
 by_cases hs : 1 ≤ s.size ∧ s.size ≤ 40
 ·exact hs.1
 ·have hin : Em (s.size : Int) 1 40 = false:=by unfold Em; simp; omega
  unfold Ic at h
  simp only [Rk,hin,Bool.false_eq_true,if_false,Bool.false_and] at h
  cases h
theorem AB (s : ByteArray) : Tt s Cj = false:=by
 unfold Tt
 rw [show Cj.toList = [] by decide +kernel]
 cases s.toList <;> rfl
end Go.Proofs.YtgfjjiheamdgbaaGreatDoor
namespace Go.Proofs.YtgfjjiheamdgbaaGreatDoor
open Go
theorem Gs {κ R : Type} (K : κ) (f : κ → R) : Es K f = f K:=rfl
theorem Ho {R : Type} {c : Bool} {k : Option R} (h : c = true) : Chk c k = k:=by subst h; rfl
section
variable {α R : Type}
variable [Inhabited α]
theorem Od (a : List α) (y : α) (b : List α) {e : Int} (he : e = (a.length : Int)) : nth (a ++ y :: b) e = y:=by
 subst he
 simp [nth]
omit [Inhabited α] in
theorem cut_clr (a b : List α) (z : α) : Pf (a.length : Int) ((a ++ b).length : Int) (a ++ b).length = true ∧ Pf 0 (a.length : Int) (clr (a ++ b) (a.length : Int) ((a ++ b).length : Int) z).length = true ∧ cut (clr (a ++ b) (a.length : Int) ((a ++ b).length : Int) z) 0 (a.length : Int) = a:=by
 refine ⟨Ko.2 (by simp; omega),Ko.2 ⟨by omega,by omega,by simp [clr]; omega⟩,?_⟩
 simp [cut,clr]
def Ow (lt : α → α → Bool) (x : α) : List α → List α
 | []=>[x]
 | y :: r=>if lt x y then y :: Ow lt x r else x :: y :: r
def Ox (lt : α → α → Bool) (l rp : List α) : List α:=l.foldl (fun rp x=>Ow lt x rp) rp
def Mr (lt : α → α → Bool) (l : List α) : List α:=(Ox lt l []).reverse
omit [Inhabited α] in
theorem Oy (lt : α → α → Bool) (x : α) : ∀ l : List α,(Ow lt x l).length = l.length + 1
 | []=>rfl
 | y :: r=>by
  unfold Ow
  split
  ·simp [Oy lt x r]
  ·rfl
omit [Inhabited α] in
theorem Uf (lt : α → α → Bool) (x z : α) : ∀ l : List α,z ∈ Ow lt x l ↔ z = x ∨ z ∈ l
 | []=>by simp [Ow]
 | y :: r=>by
  unfold Ow
  split
  ·simp only [List.mem_cons,Uf lt x z r]
   constructor
   ·rintro (h | h | h)
    ·exact .inr (.inl h)
    ·exact .inl h
    ·exact .inr (.inr h)
   ·rintro (h | h | h)
    ·exact .inr (.inl h)
    ·exact .inl h
    ·exact .inr (.inr h)
  ·simp
theorem ins_l (C : α → α → (Bool → Option R) → Option R) (lt : α → α → Bool) (j : List α → Option R) (F : Nat → List α → Int → Option R)
  (h : ∀ m x i,F (m + 1) x i = if decide (0 < i) then Chk (inB i x.length) (Chk (inB (W (i - 1)) x.length) (C (nth x i) (nth x (W (i - 1))) (fun b=>if b then
   Chk (inB (W (i - 1)) x.length) (Chk (inB i x.length) (Chk (inB i x.length) (Chk (inB (W (i - 1)) (x.set i.toNat (nth x (W (i - 1)))).length) (F m ((x.set i.toNat (nth x (W (i - 1)))).set (W (i - 1)).toNat (nth x i)) (W (i - 1)))))) else j x))) else j x) :
  ∀ (rp : List α) (x : α) (post : List α) (m : Nat),rp.length < m → rp.length + post.length < 1073741824 → (∀ y ∈ rp,∀ k,C x y k = k (lt x y)) →
   F m (rp.reverse ++ x :: post) (rp.length : Int) = j ((Ow lt x rp).reverse ++ post)
 | [],x,post,m,h1,h2,_=>by
  obtain ⟨m,rfl⟩ : ∃ q,m = q + 1:=⟨m - 1,by omega⟩
  rw [h,if_neg (by simp)]
  rfl
 | y :: r,x,post,m,h1,h2,hC=>by
  obtain ⟨m,rfl⟩ : ∃ q,m = q + 1:=⟨m - 1,by omega⟩
  simp only [List.length_cons] at h1 h2
  have e0 : (y :: r).reverse ++ x :: post = r.reverse ++ y :: x :: post:=by simp
  have e0' : r.reverse ++ y :: x :: post = (r.reverse ++ [y]) ++ x :: post:=by simp
  have wi : W ((((y :: r).length : Nat) : Int) - 1) = (r.length : Int):=by rw [Hv (by simp only [List.length_cons]; omega) (by simp only [List.length_cons]; omega)]; simp
  have n1 : nth (r.reverse ++ y :: x :: post) (((y :: r).length : Nat) : Int) = x:=by rw [e0']; exact Od _ _ _ (by simp)
  have n2 : nth (r.reverse ++ y :: x :: post) (r.length : Int) = y:=Od _ _ _ (by simp)
  have b1 : inB (((y :: r).length : Nat) : Int) (r.reverse ++ y :: x :: post).length = true:=Fh.2 ⟨by omega,by simp; omega⟩
  have b2 : inB (r.length : Int) (r.reverse ++ y :: x :: post).length = true:=Fh.2 (by simp; omega)
  rw [h,e0,if_pos (decide_eq_true (by simp only [List.length_cons]; omega)),wi,Ho b1,Ho b2,n1,n2,hC y List.mem_cons_self]
  unfold Ow
  cases hb : lt x y with
  | true =>
   simp only [if_true]
   rw [Ho b2,Ho b1,Ho b1,Ho (by rw [List.length_set]; exact b2)]
   have e1 : ((r.reverse ++ y :: x :: post).set (((y :: r).length : Nat) : Int).toNat y).set (r.length : Int).toNat x = r.reverse ++ x :: (y :: post):=by
    have e2 : (r.reverse ++ y :: x :: post).set (((y :: r).length : Nat) : Int).toNat y = r.reverse ++ y :: y :: post:=by
     rw [e0',show (((y :: r).length : Nat) : Int).toNat = (r.reverse ++ [y]).length by simp,List.set_append_right _ _ (Nat.le_refl _)]
     simp
    rw [e2,show (r.length : Int).toNat = r.reverse.length by simp,List.set_append_right _ _ (Nat.le_refl _)]
    simp
   rw [e1,ins_l C lt j F h r x (y :: post) m (by omega) (by simp; omega) (fun z hz=>hC z (List.mem_cons_of_mem _ hz))]
   simp
  | false=>simp
omit [Inhabited α] in
theorem CA (lt : α → α → Bool) (j : List α → Option R) (G : (List α → Option R) → List α → Int → Option R) (F : Nat → List α → Int → Option R) (n : Int)
  (h : ∀ m x i,F (m + 1) x i = if decide (i < n) then G (fun x=>F m x (W (i + 1))) x i else j x)
  (hG : ∀ k (rp : List α) (x : α) (post : List α),((rp ++ x :: post).length : Int) = n → (∀ y,y ∈ rp ∨ y = x ∨ y ∈ post → y ∈ (rp ++ x :: post)) → G k (rp.reverse ++ x :: post) (rp.length : Int) = k ((Ow lt x rp).reverse ++ post)) :
  ∀ (rest rp : List α) (m : Nat),rest.length < m → ((rp.length + rest.length : Nat) : Int) = n → rp.length + rest.length < 1073741824 →
   F m (rp.reverse ++ rest) (rp.length : Int) = j (Ox lt rest rp).reverse
 | [],rp,m,h1,h2,_=>by
  obtain ⟨m,rfl⟩ : ∃ q,m = q + 1:=⟨m - 1,by omega⟩
  rw [h,if_neg (by simp at h2; simp; omega)]
  simp [Ox]
 | x :: r,rp,m,h1,h2,h3=>by
  obtain ⟨m,rfl⟩ : ∃ q,m = q + 1:=⟨m - 1,by omega⟩
  simp only [List.length_cons] at h1 h2 h3
  rw [h,if_pos (by simp; omega),hG _ rp x r (by simp; omega) (fun y hy=>by simpa using hy),show W ((rp.length : Int) + 1) = ((Ow lt x rp).length : Int) by rw [Hv (by omega) (by omega),Oy]; rfl,
   CA lt j G F n h hG r (Ow lt x rp) m (by omega) (by rw [Oy]; omega) (by rw [Oy]; omega)]
  rfl
omit [Inhabited α] in
theorem Ya (lt : α → α → Bool) (z : α) : ∀ l rp : List α,z ∈ Ox lt l rp ↔ z ∈ l ∨ z ∈ rp
 | [],rp=>by simp [Ox]
 | x :: l,rp=>by
  show z ∈ Ox lt l (Ow lt x rp) ↔ _
  rw [Ya lt z l,Uf]
  simp only [List.mem_cons]
  constructor
  ·rintro (h | h | h)
   ·exact .inl (.inr h)
   ·exact .inl (.inl h)
   ·exact .inr h
  ·rintro ((h | h) | h)
   ·exact .inr (.inl h)
   ·exact .inl h
   ·exact .inr (.inr h)
omit [Inhabited α] in
end
end Go.Proofs.YtgfjjiheamdgbaaGreatDoor
namespace Go.Proofs.YtgfjjiheamdgbaaGreatDoor
open Go
section
variable {α β R : Type}
def sel (P : α → Nat → Bool) (f : α → Nat → β) : List α → Nat → List β
 | [],_=>[]
 | y :: ys,i=>if P y i then f y i :: sel P f ys (i + 1) else sel P f ys (i + 1)
theorem Zc (P : α → Nat → Bool) (f : α → Nat → β) : ∀ (l : List α) (i : Nat),(sel P f l i).length ≤ l.length
 | [],_=>Nat.le_refl _
 | y :: ys,i=>by
  unfold sel
  have:=Zc P f ys (i + 1)
  split
  ·simp only [List.length_cons]; omega
  ·simp only [List.length_cons]; omega
theorem Zd (P : α → Nat → Bool) (f : α → Nat → β) : ∀ (a b : List α) (i : Nat),sel P f (a ++ b) i = sel P f a i ++ sel P f b (i + a.length)
 | [],b,i=>by simp [sel]
 | y :: a,b,i=>by
  simp only [List.cons_append,sel,Zd P f a b (i + 1),List.length_cons]
  rw [show i + 1 + a.length = i + (a.length + 1) by omega]
  split <;> rfl
theorem Uy {P Q : α → Nat → Bool} {f g : α → Nat → β} : ∀ (l : List α) (i : Nat),(∀ k y,l[k]? = some y → P y (i + k) = Q y (i + k) ∧ (P y (i + k) = true → f y (i + k) = g y (i + k))) → sel P f l i = sel Q g l i
 | [],_,_=>rfl
 | y :: ys,i,h=>by
  obtain ⟨h1,h2⟩:=h 0 y rfl
  have ih:=Uy (P:=P) (Q:=Q) (f:=f) (g:=g) ys (i + 1) fun k z hz=>by
   have:=h (k + 1) z (by simpa using hz)
   rwa [show i + (k + 1) = i + 1 + k by omega] at this
  unfold sel
  rw [ih]
  simp only [Nat.add_zero] at h1 h2
  rw [← h1]
  split
  ·rename_i hp; rw [h2 hp]
  ·rfl
theorem Yb (P : α → Bool) (f : α → β) : ∀ (l : List α) (i : Nat),sel (fun y _=>P y) (fun y _=>f y) l i = (l.filter P).map f
 | [],_=>rfl
 | y :: ys,i=>by
  unfold sel
  rw [Yb P f ys (i + 1),List.filter_cons]
  split <;> rfl
theorem AC (P : α → Nat → Bool) (f : α → Nat → β) (j : List β → Option R) (F : List α → Nat → List β → Option R) (h0 : ∀ i x,F [] i x = j x) (l : List α) (hl : l.length < 1073741824) (c0 : Nat) (hc0 : c0 + l.length < 1073741824)
  (h1 : ∀ (dn : List α) (y : α) (ys : List α) (x : List β),l = dn ++ y :: ys → x.length ≤ c0 + dn.length → F (y :: ys) dn.length x = if P y dn.length then Chk (Mw x.length) (F ys (dn.length + 1) (x ++ [f y dn.length])) else F ys (dn.length + 1) x) :
  ∀ (ys dn : List α) (x : List β),l = dn ++ ys → x.length ≤ c0 + dn.length → F ys dn.length x = j (x ++ sel P f ys dn.length)
 | [],dn,x,_,_=>by rw [h0]; simp [sel]
 | y :: ys,dn,x,h,hx=>by
  have hlen : l.length = dn.length + (ys.length + 1):=by rw [h]; simp
  have h' : l = (dn ++ [y]) ++ ys:=by rw [h]; simp
  have e : (dn ++ [y]).length = dn.length + 1:=by simp
  rw [h1 dn y ys x h hx]
  unfold sel
  cases hp : P y dn.length with
  | true =>
   simp only [if_true]
   rw [Ho (by unfold Mw; simp; omega)]
   have ih:=AC P f j F h0 l hl c0 hc0 h1 ys (dn ++ [y]) (x ++ [f y dn.length]) h' (by rw [e]; simp; omega)
   rw [e] at ih
   rw [ih]
   simp
  | false =>
   simp only [Bool.false_eq_true,if_false]
   have ih:=AC P f j F h0 l hl c0 hc0 h1 ys (dn ++ [y]) x h' (by rw [e]; omega)
   rw [e] at ih
   exact ih
theorem EJ (P : α → Bool) (f : α → β) (j : List β → Option R) (F : List α → Nat → List β → Option R) (h0 : ∀ i x,F [] i x = j x) (l : List α) (hl : l.length < 1073741824)
  (h1 : ∀ (y : α) (ys : List α) (i : Nat) (x : List β),F (y :: ys) i x = if P y then Chk (Mw x.length) (F ys (i + 1) (x ++ [f y])) else F ys (i + 1) x) : F l 0 [] = j ((l.filter P).map f):=by
 have:=AC (fun y _=>P y) (fun y _=>f y) j F h0 l hl 0 (by omega) (fun dn y ys x _ _=>h1 y ys dn.length x) l [] [] rfl (by simp)
 rw [List.length_nil,Yb] at this
 exact this
variable [DecidableEq α] [Inhabited α]
theorem eq_l (l : List α) (F : List α → Nat → Option Bool) (h0 : ∀ i,F [] i = some true) (h1 : ∀ y ys i,F (y :: ys) i = Chk (inB (i : Int) l.length) (if !decide (y = nth l (i : Int)) then some false else F ys (i + 1))) : ∀ (ys dn : List α),l = dn ++ ys → F ys dn.length = some true
 | [],dn,_=>h0 _
 | y :: ys,dn,h=>by
  have hlen : l.length = dn.length + (ys.length + 1):=by rw [h]; simp
  have hn : nth l (dn.length : Int) = y:=by rw [h]; exact Od _ _ _ rfl
  have ih:=eq_l l F h0 h1 ys (dn ++ [y]) (by rw [h]; simp)
  rw [List.length_append] at ih
  rw [h1,Ho (Fh.2 (by omega)),hn]
  simpa using ih
end
section
variable {α R : Type} [Inhabited α]
theorem Tm (C : α → α → Bool) (k n : Nat) (j : List α → Int → Option R) (F : Nat → List α → Int → Int → Option R)
  (h : ∀ m x2 x3 x4,F (m + 1) x2 x3 x4 = if decide (x4 < (((n : Int).toNat - (k : Int).toNat : Nat) : Int)) then
   Chk (inB x4 ((n : Int).toNat - (k : Int).toNat)) (Chk (inB (W (x4 - 1)) ((n : Int).toNat - (k : Int).toNat)) (if !(C (nth (cut x2 (k : Int) (n : Int)) x4) (nth (cut x2 (k : Int) (n : Int)) (W (x4 - 1)))) then
    Chk (inB x4 ((n : Int).toNat - (k : Int).toNat)) (Chk (inB x3 x2.length) (F m (x2.set x3.toNat (nth (cut x2 (k : Int) (n : Int)) x4)) (W (x3 + 1)) (W (x4 + 1))))
   else F m x2 x3 (W (x4 + 1)))) else j x2 x3) (hn : n < 1073741824) (hkn : k ≤ n) :
  ∀ (q m : Nat) (x2 : List α) (v r : Nat),q < m → q + r ≥ n - k → 1 ≤ r → x2.length = n → v < k + r → v ≤ n → ∃ (x2' : List α) (v' : Nat),F m x2 (v : Int) (r : Int) = j x2' (v' : Int) ∧ x2'.length = n ∧ v' ≤ n
 | q,m,x2,v,r,h1,h2,h3,h4,h5,h6=>by
  obtain ⟨m,rfl⟩ : ∃ p,m = p + 1:=⟨m - 1,by omega⟩
  rw [h]
  simp only [Int.toNat_natCast]
  by_cases hr : r < n - k
  ·rw [if_pos (by simp; omega),Ho (Fh.2 (by omega)),Ho (Fh.2 (by rw [Hv (by omega) (by omega)]; omega))]
   have w1 : W ((r : Int) + 1) = ((r + 1 : Nat) : Int):=by rw [Hv (by omega) (by omega)]; rfl
   have w2 : W ((v : Int) + 1) = ((v + 1 : Nat) : Int):=by rw [Hv (by omega) (by omega)]; rfl
   rw [w1,w2]
   obtain ⟨q,rfl⟩ : ∃ p,q = p + 1:=⟨q - 1,by omega⟩
   split
   ·rw [Ho (Fh.2 (by omega)),Ho (Fh.2 (by omega))]
    exact Tm C k n j F h hn hkn q m _ (v + 1) (r + 1) (by omega) (by omega) (by omega) (by simpa using h4) (by omega) (by omega)
   ·exact Tm C k n j F h hn hkn q m _ v (r + 1) (by omega) (by omega) (by omega) h4 (by omega) h6
  ·rw [if_neg (by simp; omega)]
   exact ⟨x2,v,rfl,h4,h6⟩
end
end Go.Proofs.YtgfjjiheamdgbaaGreatDoor
namespace Go.Proofs.YtgfjjiheamdgbaaGreatDoor
open Go
theorem cmpI' (x y : Int) : El x y = if x < y then -1 else if y < x then 1 else 0:=by
 unfold El Kk
 simp
theorem orI3 (a b c : Int) : Nh [a,b,c] = if a ≠ 0 then a else if b ≠ 0 then b else c:=by
 unfold Nh
 simp only [Gs,Ii]
 by_cases h1 : a = 0
 ·by_cases h2 : b = 0
  ·by_cases h3 : c = 0 <;> simp [h1,h2,h3]
  ·simp [h1,h2]
 ·simp [h1]
def StG (x : An) : Prop:=(0 ≤ x.At ∧ x.At < 345686400000) ∧ (1 ≤ x.Kind ∧ x.Kind ≤ 3) ∧ (x.Kind = 1 → 1 ≤ x.Time ∧ x.Time ≤ 360000)
theorem Rp (p q : An) : Cs p q = if p.At < q.At then -1 else if q.At < p.At then 1 else if cB p.Id q.Id ≠ 0 then cB p.Id q.Id else if p.Kind < q.Kind then -1 else if q.Kind < p.Kind then 1 else 0:=by
 unfold Cs
 rw [orI3,cmpI',cmpI']
 have hc : Gr p.Id q.Id = cB p.Id q.Id:=rfl
 rw [hc]
 by_cases h1 : p.At < q.At
 ·simp [h1]
 ·by_cases h2 : q.At < p.At
  ·simp [h1,h2]
  ·simp [h1,h2]
theorem Oe (p q : An) (hp : StG p) (hq : StG q) : Df p q = Cs p q:=by
 rw [Rp]
 unfold StG at hp hq
 unfold Df Mx
 have hc : Gr p.Id q.Id = cB p.Id q.Id:=rfl
 rw [hc,Hv (n:=p.At - q.At) (by omega) (by omega),Hv (n:=p.Kind - q.Kind) (by omega) (by omega)]
 by_cases h1 : p.At < q.At
 ·have : ¬ p.At = q.At:=by omega
  simp [h1,this,show p.At - q.At < 0 by omega]
 ·by_cases h2 : q.At < p.At
  ·have : ¬ p.At = q.At:=by omega
   simp [h1,h2,this,show ¬ p.At - q.At < 0 by omega,show 0 < p.At - q.At by omega]
  ·have h3 : p.At = q.At:=by omega
   by_cases h4 : p.Id = q.Id
   ·have h5 : cB p.Id q.Id = 0:=cB_eq.2 h4
    by_cases h6 : p.Kind < q.Kind
    ·simp [h3,h4,h6,Oc,show p.Kind - q.Kind < 0 by omega]
    ·by_cases h7 : q.Kind < p.Kind
     ·simp [h3,h4,h6,h7,Oc,show ¬ p.Kind - q.Kind < 0 by omega,show 0 < p.Kind - q.Kind by omega]
     ·simp [h3,h4,h6,h7,Oc,show ¬ p.Kind - q.Kind < 0 by omega,show ¬ 0 < p.Kind - q.Kind by omega]
   ·have h5 : ¬ cB p.Id q.Id = 0:=fun h=>h4 (Ue h)
    simp [h3,h4,h5]
theorem CB (t : Int) : Lm t = Ht t:=by
 unfold Lm Ht Em
 congr 1
 rw [decide_eq_decide]
 omega
theorem withinR : Jm = Em:=rfl
theorem timeR (t : Int) : Lz t = Em t 1 360000:=rfl
theorem Yc (x : An) : ∃ e,Hl x = some e ∧ Kq x = some e ∧ (e = 0 → StG x):=by
 obtain ⟨b1,k1,k1'⟩:=Pp x.Id
 obtain ⟨b2,k2,k2'⟩:=Pp x.Who
 obtain ⟨b3,k3,k3'⟩:=Pp x.Race
 obtain ⟨b4,k4,k4'⟩:=Pp x.Club
 unfold Hl Kq
 rw [CB,withinR,timeR,k1,k1',k2,k2',k3,k3',k4,k4']
 simp only [Gs,Option.bind_some]
 cases hm : Ht x.At with
 | false=>exact ⟨1,rfl,rfl,fun h=>by cases h⟩
 | true =>
  simp only [Bool.not_true,Bool.false_eq_true,if_false]
  cases hk : Em x.Kind 1 3 with
  | false=>exact ⟨4,rfl,rfl,fun h=>by cases h⟩
  | true =>
   simp only [Bool.not_true,Bool.false_eq_true,if_false]
   have hat : 0 ≤ x.At ∧ x.At < 345686400000:=by
    unfold Ht Em at hm
    simp at hm
    omega
   have hkk : 1 ≤ x.Kind ∧ x.Kind ≤ 3:=by
    unfold Em at hk
    simpa using hk
   cases b1 with
   | false=>exact ⟨5,rfl,rfl,fun h=>by cases h⟩
   | true =>
    simp only [Bool.not_true,Bool.false_eq_true,if_false]
    by_cases h1 : x.Kind = 1
    ·simp only [h1,decide_true,Bool.not_true,Bool.false_eq_true,if_false]
     by_cases hcl : x.Club = Cj
     ·cases b2 <;> cases b3 <;> simp only [hcl,decide_true,Bool.not_true,Bool.not_false,Bool.false_and,Bool.true_or,Bool.or_true,Bool.or_false,Bool.false_or,if_true,Bool.false_eq_true,if_false]
      ·exact ⟨5,rfl,rfl,fun h=>by cases h⟩
      ·exact ⟨5,rfl,rfl,fun h=>by cases h⟩
      ·exact ⟨5,rfl,rfl,fun h=>by cases h⟩
      ·split
       ·exact ⟨1,rfl,rfl,fun h=>by cases h⟩
       ·rename_i hh
        refine ⟨0,rfl,rfl,fun _=>⟨hat,hkk,fun _=>?_⟩⟩
        simp [Em] at hh
        omega
     ·cases b2 <;> cases b3 <;> cases b4 <;> simp only [hcl,decide_false,Bool.not_true,Bool.not_false,Bool.true_and,Bool.true_or,Bool.or_true,Bool.or_false,Bool.false_or,if_true,Bool.false_eq_true,if_false]
      case true.true.true =>
       split
       ·exact ⟨1,rfl,rfl,fun h=>by cases h⟩
       ·rename_i hh
        refine ⟨0,rfl,rfl,fun _=>⟨hat,hkk,fun _=>?_⟩⟩
        simp [Em] at hh
        omega
      all_goals exact ⟨5,rfl,rfl,fun h=>by cases h⟩
    ·simp only [h1,decide_false,Bool.not_false,if_true]
     split
     ·exact ⟨3,rfl,rfl,fun h=>by cases h⟩
     ·exact ⟨0,rfl,rfl,fun _=>⟨hat,hkk,fun h=>absurd h h1⟩⟩
def Qt (l : List An) : Prop:=∀ dn p q ys,l = dn ++ p :: q :: ys → Cs p q < 0
theorem EK {l : List An} {y : An} (h : Qt l) (hy : ∀ d p,l = d ++ [p] → Cs p y < 0) : Qt (l ++ [y]):=by
 intro d p q r e
 rcases List.eq_nil_or_concat r with rfl | ⟨r',z,rfl⟩
 ·have h' : l ++ [y] = (d ++ [p]) ++ [q]:=by rw [e]; simp
  have h4:=List.append_inj' h' rfl
  have hq : y = q:=by simpa using h4.2
  subst hq
  exact hy d p h4.1
 ·have h' : l ++ [y] = (d ++ p :: q :: r') ++ [z]:=by rw [e]; simp
  exact h d p q r' (List.append_inj' h' rfl).1
theorem Xa (l : List An) (hl : l.length ≤ 1000) : ∀ (ys dn : List An),l = dn ++ ys → (∀ x ∈ dn,StG x) → Qt dn →
  ∃ e,Er l (some 0) ys dn.length = some e ∧ Fq l (some 0) ys dn.length = some e ∧ (e = 0 → (∀ x ∈ l,StG x) ∧ Qt l)
 | [],dn,h,h1,h2=>⟨0,rfl,rfl,fun _=>by rw [List.append_nil] at h; subst h; exact ⟨h1,h2⟩⟩
 | y :: ys,dn,h,h1,h2=>by
  obtain ⟨e,e1,e2,e3⟩:=Yc y
  have hlen : l.length = dn.length + (ys.length + 1):=by rw [h]; simp
  rw [Er,Fq,e1,e2]
  simp only [Option.bind_some,Gs]
  by_cases he : e = 0
  ·simp only [he,decide_true,Bool.not_true,Bool.false_eq_true,if_false]
   have hy:=e3 he
   have rest : (∀ d p,dn = d ++ [p] → Cs p y < 0) → ∃ e,Er l (some 0) ys (dn.length + 1) = some e ∧ Fq l (some 0) ys (dn.length + 1) = some e ∧ (e = 0 → (∀ x ∈ l,StG x) ∧ Qt l):=by
    intro hadj
    have:=Xa l hl ys (dn ++ [y]) (by rw [h]; simp) (fun x hx=>by
     rcases List.mem_append.1 hx with h' | h'
     ·exact h1 x h'
     ·rw [List.mem_singleton] at h'; subst h'; exact hy) (EK h2 hadj)
    rwa [List.length_append,List.length_singleton] at this
   rcases List.eq_nil_or_concat dn with hd | ⟨d,p,hd⟩
   ·subst hd
    simp only [List.length_nil,Int.natCast_zero,Int.lt_irrefl,decide_false,Bool.false_eq_true,if_false] at rest ⊢
    exact rest fun d p h'=>by simp at h'
   ·rw [List.concat_eq_append] at hd
    have hdl : dn.length = d.length + 1:=by rw [hd]; simp
    have hn : nth l (W ((dn.length : Int) - 1)) = p:=by
     rw [Hv (by omega) (by omega),h,hd]
     have : d ++ [p] ++ y :: ys = d ++ p :: (y :: ys):=by simp
     rw [this]
     exact Od _ _ _ (by simp)
    have hpos : decide (0 < (dn.length : Int)) = true:=decide_eq_true (by omega)
    have hp : StG p:=h1 p (by rw [hd]; simp)
    simp only [hpos,if_true]
    rw [Ho (Fh.2 (by rw [Hv (by omega) (by omega)]; omega)),Ho (Fh.2 (by rw [Hv (by omega) (by omega)]; omega)),hn,Oe p y hp hy]
    by_cases hc : 0 ≤ Cs p y
    ·simp only [hc,decide_true,if_true]
     exact ⟨7,rfl,rfl,fun h=>by cases h⟩
    ·simp only [hc,decide_false,Bool.false_eq_true,if_false]
     refine rest fun d' p' h'=>?_
     rw [hd] at h'
     have h4:=List.append_inj' h' rfl
     have : p = p':=by simpa using h4.2
     subst this
     omega
  ·simp only [he,decide_false,Bool.not_false,if_true]
   exact ⟨e,rfl,rfl,fun h=>absurd h he⟩
theorem Rq (l : List An) : ∃ e,Ec l = some e ∧ Hy l = some e ∧ (e = 0 → l.length ≤ 1000 ∧ (∀ x ∈ l,StG x) ∧ Qt l):=by
 unfold Ec Hy
 by_cases h : 1000 < (l.length : Int)
 ·simp only [h,decide_true,if_true]
  exact ⟨2,rfl,rfl,fun h=>by cases h⟩
 ·simp only [h,decide_false,Bool.false_eq_true,if_false,Gs]
  obtain ⟨e,e1,e2,e3⟩:=Xa l (by omega) l [] rfl (fun x hx=>by cases hx) (fun d p q r h=>by simp at h)
  exact ⟨e,e1,e2,fun he=>⟨by omega,e3 he⟩⟩
theorem To (y : Ef) (e : Int) (hy : y.Clubs.length ≤ 1000) : ∀ (ys dn : List ByteArray),y.Clubs = dn ++ ys → ∃ c,Gh y (some e) ys dn.length = some c ∧ Fu y (some e) ys dn.length = some c ∧ (c = 0 → e = 0)
 | [],dn,_=>⟨e,rfl,rfl,id⟩
 | z :: ys,dn,h=>by
  obtain ⟨b,k,k'⟩:=Pp z
  have hlen : y.Clubs.length = dn.length + (ys.length + 1):=by rw [h]; simp
  obtain ⟨c,c1,c2,c3⟩:=To y e hy ys (dn ++ [z]) (by rw [h]; simp)
  rw [List.length_append,List.length_singleton] at c1 c2
  rw [Gh,Fu,k,k',c1,c2]
  simp only [Option.bind_some,Gs]
  cases b with
  | false=>exact ⟨5,rfl,rfl,fun h=>by cases h⟩
  | true =>
   simp only [Bool.not_true,Bool.false_eq_true,if_false]
   by_cases hd : 0 < (dn.length : Int)
   ·simp only [hd,decide_true,if_true,Bool.true_and]
    rw [Ho (Fh.2 (by rw [Hv (by omega) (by omega)]; omega))]
    split
    ·exact ⟨7,rfl,rfl,fun h=>by cases h⟩
    ·exact ⟨c,rfl,rfl,c3⟩
   ·simp only [hd,decide_false,Bool.false_eq_true,if_false,Bool.false_and]
    exact ⟨c,rfl,rfl,c3⟩
theorem BF (s : ByteArray) : (Tt s Cj || decide (s = Cj)) = decide (s = Cj):=by rw [AB]; rfl
theorem Xb (l : List Ef) (hl : l.length ≤ 1000) : ∀ (ys dn : List Ef) (last : ByteArray),l = dn ++ ys → (dn = [] → last = Cj) → (∀ d x,dn = d ++ [x] → last = x.Key) →
  ∃ e,Gp l (some 0) ys dn.length = some e ∧ Gf (some 0) ys dn.length last = some e
 | [],dn,last,_,_,_=>⟨0,rfl,rfl⟩
 | y :: ys,dn,last,h,h1,h2=>by
  obtain ⟨b1,k1,k1'⟩:=Pp y.Key
  obtain ⟨b2,k2,k2'⟩:=Pp y.Race
  have hlen : l.length = dn.length + (ys.length + 1):=by rw [h]; simp
  obtain ⟨e,r1,r2⟩:=Xb l hl ys (dn ++ [y]) y.Key (by rw [h]; simp) (fun h=>by simp at h) (fun d x h=>by
   have:=List.append_inj' h rfl
   simp at this
   rw [this.2])
  rw [List.length_append,List.length_singleton] at r1 r2
  rw [Gp,Gf,k1,k2,k1',k2',r1,r2]
  simp only [Option.bind_some,Gs]
  have hempty : b1 = true → ¬ y.Key = Cj:=by
   intro hb hk
   subst hb
   have:=EI k1'
   rw [hk] at this
   exact absurd this (by decide)
  cases b1 with
  | false=>exact ⟨5,rfl,rfl⟩
  | true =>
   cases b2 with
   | false=>exact ⟨5,rfl,rfl⟩
   | true =>
    simp only [Bool.not_true,Bool.or_self,Bool.false_eq_true,if_false]
    have hbad : (((decide (y.Young < 0)) || (decide (y.Old < y.Young))) || (decide (150 < y.Old))) = ((!(Em y.Young 0 y.Old)) || (decide (150 < y.Old))):=by
     unfold Em
     congr 1
     rw [Bool.eq_iff_iff]
     simp only [Bool.or_eq_true,decide_eq_true_eq,Bool.not_eq_true',Bool.and_eq_false_iff,decide_eq_false_iff_not]
     omega
    rw [hbad]
    have key : ∀ t : Bool,∃ c,(if t then some (7 : Int) else if decide (100 < (y.Clubs.length : Int)) then some 2 else Gh y (if ((!(Em y.Young 0 y.Old)) || (decide (150 < y.Old))) then some 1 else some e) y.Clubs 0) = some c ∧
      (if t then some (7 : Int) else if decide (100 < (y.Clubs.length : Int)) then some 2 else Fu y (if ((!(Em y.Young 0 y.Old)) || (decide (150 < y.Old))) then some 1 else some e) y.Clubs 0) = some c:=by
     intro t
     cases t with
     | true=>exact ⟨7,rfl,rfl⟩
     | false =>
      by_cases hc : 100 < (y.Clubs.length : Int)
      ·simp only [hc,decide_true,if_true,Bool.false_eq_true,if_false]; exact ⟨2,rfl,rfl⟩
      ·simp only [hc,decide_false,Bool.false_eq_true,if_false]
       split
       ·obtain ⟨c,c1,c2,_⟩:=To y 1 (by omega) y.Clubs [] rfl
        exact ⟨c,c1,c2⟩
       ·obtain ⟨c,c1,c2,_⟩:=To y e (by omega) y.Clubs [] rfl
        exact ⟨c,c1,c2⟩
    rcases List.eq_nil_or_concat dn with hd | ⟨d,p,hd⟩
    ·subst hd
     rw [h1 rfl,BF]
     have:=hempty rfl
     simp only [List.length_nil,Int.natCast_zero,Int.lt_irrefl,decide_false,Bool.false_eq_true,if_false,Bool.false_and,this]
     exact key false
    ·rw [List.concat_eq_append] at hd
     have hlast:=h2 d p hd
     have hdl : dn.length = d.length + 1:=by rw [hd]; simp
     have hn : nth l (W ((dn.length : Int) - 1)) = p:=by
      rw [Hv (by omega) (by omega),h,hd]
      have : d ++ [p] ++ y :: ys = d ++ p :: (y :: ys):=by simp
      rw [this]
      exact Od _ _ _ (by simp)
     have hpos : decide (0 < (dn.length : Int)) = true:=decide_eq_true (by omega)
     rw [hn,hlast]
     simp only [hpos,if_true,Bool.true_and]
     rw [Ho (Fh.2 (by rw [Hv (by omega) (by omega)]; omega))]
     exact key _
theorem BG (l : List Ef) : ∃ e,Jp l = some e ∧ Js l = some e ∧ (e = 0 → l.length ≤ 50):=by
 unfold Jp Js
 by_cases h : 50 < (l.length : Int)
 ·simp only [h,decide_true,if_true]
  exact ⟨2,rfl,rfl,fun h=>by cases h⟩
 ·simp only [h,decide_false,Bool.false_eq_true,if_false,Gs]
  obtain ⟨e,e1,e2⟩:=Xb l (by omega) l [] Cj rfl (fun _=>rfl) (fun d x h=>by simp at h)
  exact ⟨e,e1,e2,fun _=>by omega⟩
end Go.Proofs.YtgfjjiheamdgbaaGreatDoor
namespace Go.Proofs.YtgfjjiheamdgbaaGreatDoor
open Go
section
variable {L : List Int} (hL : Xy L) {a : Int}
include hL
theorem Rr : ∀ (ys : List ByteArray) (i : Nat) (x : List ByteArray) (a : Int) (j : List ByteArray → Int → Option ((List Ef) × Int)),0 ≤ a → a + ys.length ≤ 1000000000 → x.length + ys.length ≤ 1000 →
  ∃ x' b,Gn L j ys i x a = j x' b ∧ a ≤ b ∧ b ≤ a + ys.length ∧ x'.length ≤ x.length + ys.length
 | [],i,x,a,j,h1,h2,h3=>⟨x,a,rfl,by omega,by simp,by simp⟩
 | y :: ys,i,x,a,j,h1,h2,h3=>by
  simp only [List.length_cons] at h2 h3
  rw [Gn]
  simp only [Gs]
  obtain ⟨f,b1,e1,g1,g2,_⟩:=Ro hL (a:=a) h1 (by omega) 3 (by omega)
  rw [e1]; simp only [Option.bind_some]
  cases f with
  | true =>
   rw [if_pos rfl,Ho (by unfold Mw; simp; omega)]
   obtain ⟨x',b,r1,r2,r3,r4⟩:=Rr ys (i + 1) (x ++ [y]) b1 j (by omega) (by omega) (by simp; omega)
   exact ⟨x',b,r1,by omega,by simp; omega,by simp at r4 ⊢; omega⟩
  | false =>
   rw [if_neg (by simp)]
   obtain ⟨x',b,r1,r2,r3,r4⟩:=Rr ys (i + 1) x b1 j (by omega) (by omega) (by omega)
   exact ⟨x',b,r1,by omega,by simp; omega,by simp; omega⟩
theorem Rs : ∀ (ys : List ByteArray) (i : Nat) (x : List Ef) (a : Int),0 ≤ a → a + 8 * ys.length ≤ 1000000000 → x.length + ys.length ≤ 1000 → (∀ k ∈ x,k.Clubs.length ≤ 2) →
  ∃ x' b,Gg L (fun x a=>some (x,a)) ys i x a = some (x',b) ∧ a ≤ b ∧ b ≤ a + 8 * ys.length ∧ x'.length ≤ x.length + ys.length ∧ ∀ k ∈ x',k.Clubs.length ≤ 2
 | [],i,x,a,h1,h2,h3,h4=>⟨x,a,rfl,by omega,by simp,by simp,h4⟩
 | y :: ys,i,x,a,h1,h2,h3,h4=>by
  simp only [List.length_cons] at h2 h3
  rw [Gg]
  simp only [Gs]
  obtain ⟨f,b1,e1,g1,g2,_⟩:=Ro hL (a:=a) h1 (by omega) 6 (by omega)
  rw [e1]; simp only [Option.bind_some]
  cases f with
  | true =>
   rw [if_pos rfl]
   obtain ⟨x',b,r1,r2,r3,r4,r5⟩:=Rs ys (i + 1) x b1 (by omega) (by omega) (by omega) h4
   exact ⟨x',b,r1,by omega,by simp; omega,by simp; omega,r5⟩
  | false =>
   rw [if_neg (by simp)]
   obtain ⟨v2,b2,e2,g3,g4,_⟩:=Nf hL (a:=b1) (by omega) (by omega) [Og,Og,Ua] (by simp) (by simp)
   rw [e2]; simp only [Option.bind_some]
   obtain ⟨v3,b3,e3,g5,g6,_⟩:=Rl hL (a:=b2) (by omega) (by omega) [0,0,10] (by simp) (by simp)
   rw [e3]; simp only [Option.bind_some]
   obtain ⟨v4,b4,e4,g7,g8,_⟩:=Rl hL (a:=b3) (by omega) (by omega) [14,99,150] (by simp) (by simp)
   rw [e4]; simp only [Option.bind_some]
   obtain ⟨c,b5,e5,g9,g10,g11⟩:=Rr hL [Jc,Mg] 0 [] b4 (fun (x5 : List ByteArray) (x6 : Int)=>Chk (Mw x.length) (Gg L (fun x a=>some (x,a)) ys (i + 1) (x ++ [(Ef.mk y v2 x5 v3 v4)]) x6)) (by omega) (by simp; omega) (by simp)
   simp only [List.length_cons,List.length_nil] at g10
   rw [e5,Ho (by unfold Mw; simp; omega)]
   obtain ⟨x',b,r1,r2,r3,r4,r5⟩:=Rs ys (i + 1) (x ++ [(Ef.mk y v2 c v3 v4)]) b5 (by omega) (by omega) (by simp; omega) (fun k hk=>by
    rcases List.mem_append.1 hk with hk | hk
    ·exact h4 k hk
    ·rw [List.mem_singleton] at hk; subst hk; simpa using g11)
   exact ⟨x',b,r1,by omega,by simp; omega,by simp at r4 ⊢; omega,r5⟩
theorem Xp (h0 : 0 ≤ a) (h1 : a ≤ 1000000) : Dr a 24 (fun x=>x.length ≤ 3 ∧ ∀ k ∈ x,k.Clubs.length ≤ 2) (Ky L a):=by
 unfold Ky
 simp only [Gs]
 obtain ⟨x,b,e,g1,g2,g3,g4⟩:=Rs hL [Mj,Pl,Pm] 0 [] a h0 (by simp; omega) (by simp) (fun _ h=>by cases h)
 exact ⟨x,b,e,g1,by simp at g2; omega,by simpa using g3,g4⟩
theorem EL (h0 : 0 ≤ a) (h1 : a ≤ 1000000) : Dr a 60 (fun x=>x.length ≤ 3) (Nw L a):=by
 unfold Nw
 obtain ⟨k,b1,e1,g1,g2,hk,hkc⟩:=Xp hL h0 h1
 rw [e1]; simp only [Option.bind_some,Gs]
 by_cases hc : 0 < (k.length : Int)
 ·rw [if_pos (decide_eq_true hc)]
  obtain ⟨f,b2,e2,g3,g4,_⟩:=Ro hL (a:=b1) (by omega) (by omega) 12 (by omega)
  rw [e2]; simp only [Option.bind_some]
  cases f with
  | false=>rw [if_neg (by simp)]; exact ⟨k,b2,rfl,by omega,by omega,hk⟩
  | true =>
   rw [if_pos rfl]
   obtain ⟨n,b3,e3,g5,g6,hn⟩:=Za hL (a:=b2) (by omega) (by omega) (k.length : Int) (by omega)
   rw [e3]; simp only [Option.bind_some]
   have hin : inB n k.length = true:=Fh.2 (by omega)
   rw [Ho hin]
   obtain ⟨u1,c1,t1,w1,w2,_⟩:=Nf hL (a:=b3) (by omega) (by omega) [(nth k n).Key,Cj,Mj] (by simp) (by simp)
   rw [t1]; simp only [Option.bind_some]
   obtain ⟨u2,c2,t2,w3,w4,_⟩:=Nf hL (a:=c1) (by omega) (by omega) [(nth k n).Race,k_A] (by simp) (by simp)
   rw [t2]; simp only [Option.bind_some]
   obtain ⟨u3,c3,t3,w5,w6,_⟩:=Ux hL (a:=c2) (by omega) (by omega) 0 20 (by omega) (by omega) (by omega)
   rw [t3]; simp only [Option.bind_some]
   obtain ⟨u4,c4,t4,w7,w8,_⟩:=Ux hL (a:=c3) (by omega) (by omega) 0 150 (by omega) (by omega) (by omega)
   rw [t4]; simp only [Option.bind_some]
   generalize hx : ((((k.set n.toNat (Ef.mk u1 ((nth k n).Race) ((nth k n).Clubs) ((nth k n).Young) ((nth k n).Old))).set n.toNat (Ef.mk u1 u2 ((nth k n).Clubs) ((nth k n).Young) ((nth k n).Old))).set n.toNat (Ef.mk u1 u2 ((nth k n).Clubs) u3 ((nth k n).Old))).set n.toNat (Ef.mk u1 u2 ((nth k n).Clubs) u3 u4)) = x
   have hxl : x.length = k.length:=by rw [← hx]; simp
   rw [Ho (by rw [hxl]; exact hin)]
   have hxn : nth x n = Ef.mk u1 u2 ((nth k n).Clubs) u3 u4:=by
    rw [← hx]
    have : n.toNat < k.length:=by omega
    simp [nth,List.getD,this]
   unfold Li
   have hcl : (nth x n).Clubs.length ≤ 2:=by
    rw [hxn]
    exact hkc (nth k n) (List.mem_of_getElem? (Ct hin).1)
   rw [Ho (decide_eq_true (by simp; omega))]
   simp only [Option.bind_some]
   obtain ⟨u5,c5,t5,w9,w10,_⟩:=Nf hL (a:=c4) (by omega) (by omega) [Jc,Cj,Wu] (by simp) (by simp)
   rw [t5]; simp only [Option.bind_some]
   rw [Ho (by unfold Mw; simp; omega)]
   exact ⟨_,c5,rfl,by omega,by omega,by show _ ≤ 3; rw [List.length_set,hxl]; exact hk⟩
 ·rw [if_neg (by simpa using hc)]
  exact ⟨k,b1,rfl,by omega,by omega,hk⟩
theorem AD (t : Int) (h0 : 0 ≤ a) (h1 : a ≤ 100000000) : Dr a 6 (fun x=>x.At = t ∧ x.Kind = 1 ∧ x.Id ∈ [AX,AY,AZ,BA,BB,BC] ∧ x.Who ∈ [Wv,Ww] ∧ x.Club ∈ [Jc,Mg,Cj] ∧ x.Race ∈ [Og,Og,Ua] ∧ x.Age ∈ [9,10,14,15,20] ∧ x.Time ∈ [95,96,97,100,1,2]) (Lw L a t):=by
 unfold Lw
 obtain ⟨u1,c1,t1,w1,w2,z1⟩:=Nf hL (a:=a) (by omega) (by omega) [AX,AY,AZ,BA,BB,BC] (by simp) (by simp)
 rw [t1]; simp only [Option.bind_some]
 obtain ⟨u2,c2,t2,w3,w4,z2⟩:=Nf hL (a:=c1) (by omega) (by omega) [Wv,Ww] (by simp) (by simp)
 rw [t2]; simp only [Option.bind_some]
 obtain ⟨u3,c3,t3,w5,w6,z3⟩:=Nf hL (a:=c2) (by omega) (by omega) [Jc,Mg,Cj] (by simp) (by simp)
 rw [t3]; simp only [Option.bind_some]
 obtain ⟨u4,c4,t4,w7,w8,z4⟩:=Nf hL (a:=c3) (by omega) (by omega) [Og,Og,Ua] (by simp) (by simp)
 rw [t4]; simp only [Option.bind_some]
 obtain ⟨u5,c5,t5,w9,w10,z5⟩:=Rl hL (a:=c4) (by omega) (by omega) [9,10,14,15,20] (by simp) (by simp)
 rw [t5]; simp only [Option.bind_some]
 obtain ⟨u6,c6,t6,w11,w12,z6⟩:=Rl hL (a:=c5) (by omega) (by omega) [95,96,97,100,1,2] (by simp) (by simp)
 rw [t6]; simp only [Option.bind_some]
 exact ⟨_,c6,rfl,by omega,by omega,rfl,rfl,z1,z2,z3,z4,z5,z6⟩
theorem CC (many : Int) (hm : many ≤ 100) (j : List An → Int → Option ((List An) × Int)) : ∀ (m : Nat) (x1 : List An) (a x3 x4 : Int),0 ≤ x4 → many - x4 < (m : Int) → 0 ≤ a → a + 20 * m ≤ 10000000 → x1.length + m ≤ 1000 →
  ∃ x b,Gd many L j (m + 1) x1 a x3 x4 = j x b ∧ a ≤ b ∧ b ≤ a + 20 * m ∧ x.length ≤ x1.length + m
 | m,x1,a,x3,x4,h1,h2,h3,h4,h5=>by
  rw [Gd]
  by_cases hc : x4 < many
  ·rw [if_pos (decide_eq_true hc)]
   cases m with
   | zero=>omega
   | succ m =>
    obtain ⟨v1,b1,e1,g1,g2,_⟩:=Rl hL (a:=a) h3 (by omega) [0,1,1,5] (by simp) (by simp)
    rw [e1]; simp only [Option.bind_some]
    obtain ⟨v2,b2,e2,g3,g4,_⟩:=AD hL (W (x3 + v1)) (a:=b1) (by omega) (by omega)
    rw [e2]; simp only [Option.bind_some]
    obtain ⟨v3,b3,e3,g5,g6,_⟩:=Ro hL (a:=b2) (by omega) (by omega) 3 (by omega)
    rw [e3]; simp only [Option.bind_some,Gs]
    have last : ∀ (s1 s2 : Int) (s3 s4 s5 s6 : ByteArray) (s7 s8 c : Int),a ≤ c → c ≤ a + 20 → ∃ x b,Chk (Mw x1.length) (Gd many L j (m + 1) (x1 ++ [(An.mk s1 s2 s3 s4 s5 s6 s7 s8)]) c (W (x3 + v1)) (W (x4 + 1))) = j x b ∧ a ≤ b ∧ b ≤ a + 20 * ((m + 1 : Nat) : Int) ∧ x.length ≤ x1.length + (m + 1):=by
     intro s1 s2 s3 s4 s5 s6 s7 s8 c hc1 hc2
     rw [Ho (by unfold Mw; simp; omega),Hv (n:=x4 + 1) (by omega) (by omega)]
     obtain ⟨x,b,r1,r2,r3,r4⟩:=CC many hm j m (x1 ++ [(An.mk s1 s2 s3 s4 s5 s6 s7 s8)]) c (W (x3 + v1)) (x4 + 1) (by omega) (by omega) (by omega) (by omega) (by simp; omega)
     exact ⟨x,b,r1,by omega,by push_cast; omega,by simp at r4; omega⟩
    have mid : ∀ (s1 s2 : Int) (s4 s5 s6 : ByteArray) (s7 s8 c : Int),a ≤ c → c ≤ a + 9 → ∃ x b,(Option.bind (Iv L c 80) (fun r5 =>
      if r5.1 then Option.bind (Jf L r5.2 4) (fun r6 =>
       if decide (r6.1 = 0) then Option.bind (Jl L r6.2 0 50) (fun r7=>Option.bind (Jl L r7.2 1 3) (fun r8=>Chk (Mw x1.length) (Gd many L j (m + 1) (x1 ++ [(An.mk r7.1 r8.1 v2.Id s4 s5 s6 s7 s8)]) r8.2 (W (x3 + v1)) (W (x4 + 1)))))
       else if decide (r6.1 = 1) then Option.bind (Gw L r6.2 [Cj,v2.Id,k_A]) (fun r9=>Option.bind (Gw L r9.2 [Cj,s4]) (fun r10=>Chk (Mw x1.length) (Gd many L j (m + 1) (x1 ++ [(An.mk s1 s2 r9.1 r10.1 s5 s6 s7 s8)]) r10.2 (W (x3 + v1)) (W (x4 + 1)))))
       else if decide (r6.1 = 2) then Option.bind (Gw L r6.2 [k_A,s5]) (fun r11=>Option.bind (Gw L r11.2 [Cj,s6]) (fun r12=>Chk (Mw x1.length) (Gd many L j (m + 1) (x1 ++ [(An.mk s1 s2 v2.Id s4 r11.1 r12.1 s7 s8)]) r12.2 (W (x3 + v1)) (W (x4 + 1)))))
       else Option.bind (Jl L r6.2 0 150) (fun r13=>Option.bind (Jl L r13.2 1 360000) (fun r14=>Chk (Mw x1.length) (Gd many L j (m + 1) (x1 ++ [(An.mk s1 s2 v2.Id s4 s5 s6 r13.1 r14.1)]) r14.2 (W (x3 + v1)) (W (x4 + 1))))))
      else Chk (Mw x1.length) (Gd many L j (m + 1) (x1 ++ [(An.mk s1 s2 v2.Id s4 s5 s6 s7 s8)]) r5.2 (W (x3 + v1)) (W (x4 + 1))))) = j x b ∧ a ≤ b ∧ b ≤ a + 20 * ((m + 1 : Nat) : Int) ∧ x.length ≤ x1.length + (m + 1):=by
     intro s1 s2 s4 s5 s6 s7 s8 c hc1 hc2
     obtain ⟨f,c1,t1,w1,w2,_⟩:=Ro hL (a:=c) (by omega) (by omega) 80 (by omega)
     rw [t1]; simp only [Option.bind_some]
     cases f with
     | false=>rw [if_neg (by simp)]; exact last _ _ _ _ _ _ _ _ c1 (by omega) (by omega)
     | true =>
      rw [if_pos rfl]
      obtain ⟨n,c2,t2,w3,w4,_⟩:=Za hL (a:=c1) (by omega) (by omega) 4 (by omega)
      rw [t2]; simp only [Option.bind_some]
      split
      ·obtain ⟨u1,d1,o1,p1,p2,_⟩:=Ux hL (a:=c2) (by omega) (by omega) 0 50 (by omega) (by omega) (by omega)
       rw [o1]; simp only [Option.bind_some]
       obtain ⟨u2,d2,o2,p3,p4,_⟩:=Ux hL (a:=d1) (by omega) (by omega) 1 3 (by omega) (by omega) (by omega)
       rw [o2]; simp only [Option.bind_some]
       exact last _ _ _ _ _ _ _ _ d2 (by omega) (by omega)
      ·split
       ·obtain ⟨u1,d1,o1,p1,p2,_⟩:=Nf hL (a:=c2) (by omega) (by omega) [Cj,v2.Id,k_A] (by simp) (by simp)
        rw [o1]; simp only [Option.bind_some]
        obtain ⟨u2,d2,o2,p3,p4,_⟩:=Nf hL (a:=d1) (by omega) (by omega) [Cj,s4] (by simp) (by simp)
        rw [o2]; simp only [Option.bind_some]
        exact last _ _ _ _ _ _ _ _ d2 (by omega) (by omega)
       ·split
        ·obtain ⟨u1,d1,o1,p1,p2,_⟩:=Nf hL (a:=c2) (by omega) (by omega) [k_A,s5] (by simp) (by simp)
         rw [o1]; simp only [Option.bind_some]
         obtain ⟨u2,d2,o2,p3,p4,_⟩:=Nf hL (a:=d1) (by omega) (by omega) [Cj,s6] (by simp) (by simp)
         rw [o2]; simp only [Option.bind_some]
         exact last _ _ _ _ _ _ _ _ d2 (by omega) (by omega)
        ·obtain ⟨u1,d1,o1,p1,p2,_⟩:=Ux hL (a:=c2) (by omega) (by omega) 0 150 (by omega) (by omega) (by omega)
         rw [o1]; simp only [Option.bind_some]
         obtain ⟨u2,d2,o2,p3,p4,_⟩:=Ux hL (a:=d1) (by omega) (by omega) 1 360000 (by omega) (by omega) (by omega)
         rw [o2]; simp only [Option.bind_some]
         exact last _ _ _ _ _ _ _ _ d2 (by omega) (by omega)
    cases v3 with
    | true =>
     rw [if_pos rfl]
     obtain ⟨u1,d1,o1,p1,p2,_⟩:=Rl hL (a:=b3) (by omega) (by omega) [2,3] (by simp) (by simp)
     rw [o1]; simp only [Option.bind_some]
     exact mid _ _ _ _ _ _ _ d1 (by omega) (by omega)
    | false =>
     rw [if_neg (by simp)]
     exact mid _ _ _ _ _ _ _ b3 (by omega) (by omega)
  ·rw [if_neg (by simpa using hc)]
   exact ⟨x1,a,rfl,by omega,by omega,by omega⟩
end
def ltO (x y : An) : Bool:=decide (Df x y < 0)
theorem Yd (l : List An) (hl : l.length ≤ 19) : Dq l = some (Mr ltO l):=by
 have hs : Dm l 0 (l.length : Int) = some (Mr ltO l):=by
  unfold Dm
  simp only [Gs]
  have hins : ∀ (k : List An → Option (List An)) (rp : List An) (x : An) (post : List An),((rp ++ x :: post).length : Int) = (l.length : Int) → (∀ y,y ∈ rp ∨ y = x ∨ y ∈ post → y ∈ (rp ++ x :: post)) →
    Cp 0 k (((rp.length : Int) - 0).toNat + 2) (rp.reverse ++ x :: post) (rp.length : Int) = k ((Ow ltO x rp).reverse ++ post):=by
   intro k rp x post h1 _
   exact ins_l (fun x y k=>k (ltO x y)) ltO k (Cp 0 k) (fun _ _ _=>rfl) rp x post _ (by omega) (by simp at h1; omega) fun y _ k'=>rfl
  cases l with
  | nil=>rfl
  | cons x l =>
   have hw : W (0 + 1) = (([x] : List An).length : Int):=rfl
   rw [hw]
   exact CA ltO (fun x=>some x) (fun k x i=>Cp 0 k ((i - 0).toNat + 2) x i) (Cr ((x :: l).length : Int) 0 fun x=>some x) ((x :: l).length : Int) (fun _ _ _=>rfl)
    (fun k rp x post h1 h2=>hins k rp x post h1 h2) l [x] _ (by simp only [List.length_cons,List.length_nil]; omega) (by simp only [List.length_cons,List.length_nil]; omega) (by simp only [List.length_cons,List.length_nil] at hl ⊢; omega)
 unfold Dq Fk
 simp only [Gs]
 rw [Db,if_neg (by simp; omega),hs]
 simp only [Option.bind_some]
 rw [Dc,if_neg (by simp; omega)]
 rfl
theorem Ye {α : Type} (lt : α → α → Bool) : ∀ l rp : List α,(Ox lt l rp).length = l.length + rp.length
 | [],rp=>by simp [Ox]
 | x :: l,rp=>by
  show (Ox lt l (Ow lt x rp)).length = _
  rw [Ye lt l,Oy]
  simp only [List.length_cons]
  omega
theorem Yf {α : Type} (lt : α → α → Bool) (l : List α) : (Mr lt l).length = l.length:=by
 unfold Mr
 rw [List.length_reverse,Ye]
 simp
theorem Xc (l : List An) (hl : l.length ≤ 1000) : ∀ (q m : Nat) (r : Nat),q < m → q + r ≥ l.length → 1 ≤ r → ∃ x,Dn l (some l) m (r : Int) = some x ∧ x.length ≤ l.length
 | q,m,r,h1,h2,h3=>by
  obtain ⟨m,rfl⟩ : ∃ p,m = p + 1:=⟨m - 1,by omega⟩
  rw [Dn]
  by_cases hr : (r : Int) < (l.length : Int)
  ·rw [if_pos (decide_eq_true hr),Ho (Fh.2 (by omega)),Ho (Fh.2 (by rw [Hv (by omega) (by omega)]; omega))]
   split
   ·rw [Ho (Ko.2 (by omega)),Gs]
    obtain ⟨x2,v,e,e1,e2⟩:=Tm Lx r l.length _ (Dw l (r : Int) (fun (x2 : List An) (x3 : Int)=>Chk (Pf x3 (x2.length : Int) x2.length) (Chk (Pf 0 x3 (clr x2 x3 (x2.length : Int) (An.mk 0 0 Cj Cj Cj Cj 0 0)).length) (
     some (cut (clr x2 x3 (x2.length : Int) (An.mk 0 0 Cj Cj Cj Cj 0 0)) (0 : Int) x3))))) (fun _ _ _ _=>rfl) (by omega) (by omega) (l.length - r - 1) (((((l.length : Int).toNat - (r : Int).toNat : Nat) : Int) - 1).toNat + 2) l r 1 (by simp only [Int.toNat_natCast]; omega) (by omega) (by omega) rfl (by omega) (by omega)
    refine ⟨cut (clr x2 (v : Int) (x2.length : Int) (An.mk 0 0 Cj Cj Cj Cj 0 0)) (0 : Int) (v : Int),?_,?_⟩
    ·refine e.trans ?_
     rw [Ho (Ko.2 (by omega)),Ho (Ko.2 ⟨by omega,by omega,by simp [clr]; omega⟩)]
    ·simp [cut]
     omega
   ·have hw : W ((r : Int) + 1) = ((r + 1 : Nat) : Int):=by rw [Hv (by omega) (by omega)]; rfl
    rw [hw]
    exact Xc l hl (q - 1) m (r + 1) (by omega) (by omega) (by omega)
  ·rw [if_neg (by simpa using hr)]
   exact ⟨l,rfl,Nat.le_refl _⟩
theorem AE (l : List An) (hl : l.length ≤ 1000) : ∃ x,Ff l = some x ∧ x.length ≤ l.length:=by
 unfold Ff
 split
 ·exact ⟨l,rfl,Nat.le_refl _⟩
 ·exact Xc l hl l.length _ 1 (by omega) (by omega) (by omega)
section
variable {L : List Int} (hL : Xy L) {a : Int}
include hL
theorem AF (many : Int) (hm0 : 0 ≤ many) (hm : many ≤ 16) (h0 : 0 ≤ a) (h1 : a ≤ 1000000) : Dr a 400 (fun x=>x.length ≤ 17) (Mp L a many):=by
 unfold Mp
 simp only [Gs]
 obtain ⟨x,b,e,g1,g2,g3⟩:=CC hL many (by omega) (fun (x1 : List An) (x2 : Int)=>Option.bind (Dq x1) (fun r15=>Option.bind (Ff r15) (fun r16=>some (r16,x2)))) ((many - 0).toNat + 1) [] a 0 0 (by omega) (by omega) h0 (by omega) (by simp; omega)
 simp only [List.length_nil,Nat.zero_add] at g3
 rw [Yd x (by omega)] at e
 simp only [Option.bind_some] at e
 obtain ⟨y,e1,e2⟩:=AE (Mr ltO x) (by rw [Yf]; omega)
 rw [e1] at e
 rw [Yf] at e2
 exact ⟨y,b,e,g1,by omega,by omega⟩
end
end Go.Proofs.YtgfjjiheamdgbaaGreatDoor
namespace Go.Proofs.YtgfjjiheamdgbaaGreatDoor
open Go
section
variable {α : Type}
theorem Yg (lt : α → α → Bool) (l : List α) (z : α) : z ∈ Mr lt l ↔ z ∈ l:=by
 unfold Mr
 rw [List.mem_reverse,Ya]
 simp
theorem CD {lt : α → α → Bool} (hi : ∀ x,lt x x = false) (ht : ∀ x y z,lt x y = true → lt y z = true → lt x z = true) : ∀ A B : List α,A.Pairwise (fun a b=>lt a b = true) → B.Pairwise (fun a b=>lt a b = true) → (∀ x,x ∈ A ↔ x ∈ B) → A = B
 | [],[],_,_,_=>rfl
 | [],b :: B,_,_,h=>by have:=(h b).2 (by simp); cases this
 | a :: A,[],_,_,h=>by have:=(h a).1 (by simp); cases this
 | a :: A,b :: B,hA,hB,h=>by
  rw [List.pairwise_cons] at hA hB
  have hab : a = b:=by
   rcases List.mem_cons.1 ((h a).1 (by simp)) with e | h1
   ·exact e
   ·rcases List.mem_cons.1 ((h b).2 (by simp)) with e | h2
    ·exact e.symm
    ·have:=ht a b a (hA.1 b h2) (hB.1 a h1)
     rw [hi] at this
     cases this
  subst hab
  have : A = B:=CD hi ht A B hA.2 hB.2 fun x=>by
   have hx:=h x
   constructor
   ·intro hm
    rcases List.mem_cons.1 (hx.1 (List.mem_cons_of_mem _ hm)) with rfl | h3
    ·have:=hA.1 x hm; rw [hi] at this; cases this
    ·exact h3
   ·intro hm
    rcases List.mem_cons.1 (hx.2 (List.mem_cons_of_mem _ hm)) with rfl | h3
    ·have:=hB.1 x hm; rw [hi] at this; cases this
    ·exact h3
  rw [this]
theorem Xd (lt : α → α → Bool) : ∀ l rp : List α,(Ox lt l rp).length = l.length + rp.length
 | [],rp=>by simp [Ox]
 | x :: l,rp=>by
  show (Ox lt l (Ow lt x rp)).length = _
  rw [Xd lt l,Oy]
  simp only [List.length_cons]
  omega
theorem Xe (lt : α → α → Bool) (l : List α) : (Mr lt l).length = l.length:=by
 unfold Mr
 rw [List.length_reverse,Xd]
 simp
theorem Yh (lt : α → α → Bool) (x : α) : ∀ rp : List α,(Ow lt x rp).Perm (x :: rp)
 | []=>List.Perm.refl _
 | y :: r=>by
  unfold Ow
  split
  ·exact ((Yh lt x r).cons y).trans (List.Perm.swap x y r)
  ·exact List.Perm.refl _
theorem Xf (lt : α → α → Bool) : ∀ l rp : List α,(Ox lt l rp).Perm (l ++ rp)
 | [],_=>List.Perm.refl _
 | x :: l,rp=>(Xf lt l (Ow lt x rp)).trans (((Yh lt x rp).append_left l).trans List.perm_middle)
theorem Tp (lt : α → α → Bool) (l : List α) : (Mr lt l).Perm l:=by
 have h:=Xf lt l []
 rw [List.append_nil] at h
 exact (List.reverse_perm _).trans h
def nbF [DecidableEq α] (p : α) : List α → List α
 | []=>[]
 | y :: r=>if y = p then nbF y r else y :: nbF y r
def nb [DecidableEq α] : List α → List α
 | []=>[]
 | x :: r=>x :: nbF x r
variable {R : Type} [Inhabited α]
theorem Ug {l : List α} {k : Nat} {y : α} (h : l[k]? = some y) : nth l (k : Int) = y:=by simp [nth,List.getD,h]
theorem Ze [DecidableEq α] (k n : Nat) (j : List α → Int → Option R) (F : Nat → List α → Int → Int → Option R)
  (h : ∀ m x2 x3 x4,F (m + 1) x2 x3 x4 = if decide (x4 < (((n : Int).toNat - (k : Int).toNat : Nat) : Int)) then
   Chk (inB x4 ((n : Int).toNat - (k : Int).toNat)) (Chk (inB (W (x4 - 1)) ((n : Int).toNat - (k : Int).toNat)) (if !decide ((nth (cut x2 (k : Int) (n : Int)) x4) = (nth (cut x2 (k : Int) (n : Int)) (W (x4 - 1)))) then
    Chk (inB x4 ((n : Int).toNat - (k : Int).toNat)) (Chk (inB x3 x2.length) (F m (x2.set x3.toNat (nth (cut x2 (k : Int) (n : Int)) x4)) (W (x3 + 1)) (W (x4 + 1))))
   else F m x2 x3 (W (x4 + 1)))) else j x2 x3) (hn : n < 1000000000) :
  ∀ (rest kept mid : List α) (p : α) (m r : Nat),rest.length < m → (kept ++ mid ++ p :: rest).length = n → 1 ≤ r → kept.length + mid.length = k + r - 1 →
   ∃ mid',F m (kept ++ mid ++ p :: rest) (kept.length : Int) (r : Int) = j (kept ++ nbF p rest ++ mid') ((kept ++ nbF p rest).length : Int) ∧ (kept ++ nbF p rest ++ mid').length = n
 | [],kept,mid,p,m,r,h1,h2,h3,h4=>by
  obtain ⟨m,rfl⟩ : ∃ q,m = q + 1:=⟨m - 1,by omega⟩
  simp only [List.length_append,List.length_cons,List.length_nil] at h2
  rw [h,if_neg (by simp only [Int.toNat_natCast,decide_eq_true_eq]; omega)]
  exact ⟨mid ++ [p],by simp [nbF],by simp [nbF]; omega⟩
 | y :: rest,kept,mid,p,m,r,h1,h2,h3,h4=>by
  obtain ⟨m,rfl⟩ : ∃ q,m = q + 1:=⟨m - 1,by omega⟩
  have h2':=h2
  simp only [List.length_append,List.length_cons] at h1 h2'
  have hk : k ≤ n:=by omega
  have n1 : nth (cut (kept ++ mid ++ p :: y :: rest) (k : Int) (n : Int)) (r : Int) = y:=by
   have : (cut (kept ++ mid ++ p :: y :: rest) (k : Int) (n : Int))[r]? = some y:=by
    unfold cut
    simp only [Int.toNat_natCast]
    rw [List.take_of_length_le (by rw [h2]; omega),List.getElem?_drop,List.getElem?_append_right (by simp; omega)]
    have : k + r - (kept ++ mid).length = 1:=by simp; omega
    rw [this]
    rfl
   exact Ug this
  have n2 : nth (cut (kept ++ mid ++ p :: y :: rest) (k : Int) (n : Int)) (W ((r : Int) - 1)) = p:=by
   rw [Hv (by omega) (by omega)]
   have hr : (r : Int) - 1 = ((r - 1 : Nat) : Int):=by omega
   rw [hr]
   have : (cut (kept ++ mid ++ p :: y :: rest) (k : Int) (n : Int))[r - 1]? = some p:=by
    unfold cut
    simp only [Int.toNat_natCast]
    rw [List.take_of_length_le (by rw [h2]; omega),List.getElem?_drop,List.getElem?_append_right (by simp; omega)]
    have : k + (r - 1) - (kept ++ mid).length = 0:=by simp; omega
    rw [this]
    rfl
   exact Ug this
  have w1 : W ((r : Int) + 1) = ((r + 1 : Nat) : Int):=by rw [Hv (by omega) (by omega)]; rfl
  have w2 : W ((kept.length : Int) + 1) = ((kept.length + 1 : Nat) : Int):=by rw [Hv (by omega) (by omega)]; rfl
  rw [h,if_pos (by simp only [Int.toNat_natCast,decide_eq_true_eq]; omega),Ho (Fh.2 (by simp only [Int.toNat_natCast]; omega)),Ho (Fh.2 (by simp only [Int.toNat_natCast]; rw [Hv (by omega) (by omega)]; omega)),n1,n2,w1,w2]
  by_cases hy : y = p
  ·rw [if_neg (by simp [hy])]
   obtain ⟨mid',e,e'⟩:=Ze k n j F h hn rest kept (mid ++ [p]) y m (r + 1) (by omega) (by simp; omega) (by omega) (by simp; omega)
   refine ⟨mid',?_,?_⟩
   ·have e1 : kept ++ (mid ++ [p]) ++ y :: rest = kept ++ mid ++ p :: y :: rest:=by simp
    rw [e1] at e
    rw [e]
    simp [nbF,hy]
   ·rw [← e']
    simp [nbF,hy]
  ·rw [if_pos (by simp [hy]),Ho (Fh.2 (by simp only [Int.toNat_natCast]; omega)),Ho (Fh.2 (by rw [h2]; omega))]
   cases mid with
   | nil =>
    obtain ⟨mid',e,e'⟩:=Ze k n j F h hn rest (kept ++ [y]) [] y m (r + 1) (by omega) (by simp; omega) (by omega) (by simp at h4 ⊢; omega)
    refine ⟨mid',?_,?_⟩
    ·have e1 : (kept ++ [] ++ p :: y :: rest).set (kept.length : Int).toNat y = kept ++ [y] ++ [] ++ y :: rest:=by simp
     rw [e1]
     have e2 : ((kept.length + 1 : Nat) : Int) = ((kept ++ [y]).length : Int):=by simp
     rw [e2,e]
     simp [nbF,hy]
    ·rw [← e']
     simp [nbF,hy]
   | cons z mid0 =>
    obtain ⟨mid',e,e'⟩:=Ze k n j F h hn rest (kept ++ [y]) (mid0 ++ [p]) y m (r + 1) (by omega) (by simp at h2' ⊢; omega) (by omega) (by simp at h4 ⊢; omega)
    refine ⟨mid',?_,?_⟩
    ·have e1 : (kept ++ z :: mid0 ++ p :: y :: rest).set (kept.length : Int).toNat y = kept ++ [y] ++ (mid0 ++ [p]) ++ y :: rest:=by simp
     rw [e1]
     have e2 : ((kept.length + 1 : Nat) : Int) = ((kept ++ [y]).length : Int):=by simp
     rw [e2,e]
     simp [nbF,hy]
    ·rw [← e']
     simp [nbF,hy]
end
end Go.Proofs.YtgfjjiheamdgbaaGreatDoor
