/- Words that the plain twins of the Go functions use: Go's int arithmetic,the order of strings,joins,checks. No program stands here. -/
import GoSem.Core.View
import GoSem.Op.String
import Derived.Lib.Bytealg
import Derived.Lib.SlTrimSet
namespace Go.Proofs.YtgfjjiheamdgbaaGreatDoor
open Go

def Di (k : IntKind) (x y : Int) : Int:=x.fdiv (2 ^ (min y.toNat k.bits))
def W (n : Int) : Int:=IntKind.i64.wrap n
theorem W_eq (n : Int) : W n = if 9223372036854775808 ≤ n % 18446744073709551616 then n % 18446744073709551616 - 18446744073709551616 else n % 18446744073709551616:=by
 simp [W,IntKind.wrap,IntKind.bits,IntKind.signed]
theorem Hv {n : Int} (h1 : -9223372036854775808 ≤ n) (h2 : n ≤ 9223372036854775807) : W n = n:=by
 rw [W_eq]
 split <;> omega
def Tt (s t : ByteArray) : Bool:=Op.bytesLess s.toList t.toList

def Es {κ R : Type} (K : κ) (f : κ → R) : R:=f K
theorem Dt {κ R : Type} {K : κ} {f : κ → R} {r : R} (h : Es K f = r) : ∃ j,j = K ∧ f j = r:=⟨K,rfl,h⟩
theorem Eh {α β : Type} {o : Option α} {f : α → Option β} {r : β} (h : Option.bind o f = some r) : ∃ x,o = some x ∧ f x = some r:=by
 cases o with
 | none=>cases h
 | some x=>exact ⟨x,rfl,h⟩
theorem Mu {R : Type} {b : Bool} {A B r : R} (h : (if b then A else B) = r) (hb : b = true) : A = r:=by rw [if_pos hb] at h; exact h
theorem Mv {R : Type} {b : Bool} {A B r : R} (h : (if b then A else B) = r) (hb : b = false) : B = r:=by rw [if_neg (by simp [hb])] at h; exact h
theorem Pc {b : Bool} (h : b = true) : (b == false) = false:=by subst h; rfl
theorem Hq {b : Bool} (h : b = false) : (b == true) = false:=by subst h; rfl
def Chk {R : Type} (c : Bool) (k : Option R) : Option R:=if c then k else none
theorem Gz {R : Type} {c : Bool} {k : Option R} {r : R} (h : Chk c k = some r) : c = true ∧ k = some r:=by
 unfold Chk at h
 cases c with
 | true=>exact ⟨rfl,h⟩
 | false=>cases h
def inB (e : Int) (n : Nat) : Bool:=decide (0 ≤ e) && decide (e < n)
def nth {α : Type} [Inhabited α] (l : List α) (e : Int) : α:=l.getD e.toNat default
theorem Fh {e : Int} {n : Nat} : inB e n = true ↔ 0 ≤ e ∧ e < n:=by simp [inB]
theorem Ct {α : Type} [Inhabited α] {l : List α} {e : Int} (h : inB e l.length = true) : l[e.toNat]? = some (nth l e) ∧ e = (e.toNat : Int):=by
 obtain ⟨h1,h2⟩:=Fh.1 h
 have h3 : e.toNat < l.length:=by omega
 exact ⟨by simp [nth,List.getD,List.getElem?_eq_getElem h3],by omega⟩
theorem Ie {α : Type} {xs done ys : List α} {x : α} {i : Nat} (h : xs = done ++ x :: ys) (hi : done.length = i) : xs[i]? = some x:=by subst h hi; simp
theorem Lh {n : Nat} (h : decide (n < 1073741824) = true) : n < 1073741824:=by simpa using h
def Mw (n : Nat) : Bool:=decide (n < 1073741824)
def Rv (s : ByteArray) (e : Int) : Int:=((s.data.toList.getD e.toNat 0).toNat : Int)
def Pf (l h : Int) (n : Nat) : Bool:=decide (0 ≤ l) && decide (l ≤ h) && decide (h ≤ n)
def cut {α : Type} (xs : List α) (l h : Int) : List α:=(xs.take h.toNat).drop l.toNat
def clr {α : Type} (xs : List α) (l h : Int) (z : α) : List α:=xs.take l.toNat ++ List.replicate (h.toNat - l.toNat) z ++ xs.drop h.toNat
def Zk (s : ByteArray) (l h : Int) : ByteArray:=s.extract l.toNat h.toNat
theorem Ko {l h : Int} {n : Nat} : Pf l h n = true ↔ 0 ≤ l ∧ l ≤ h ∧ h ≤ n:=by simp [Pf,and_assoc]
def Lv {α : Type} (c : α → α → Int) (l : List α) : List α:=l.mergeSort fun x y=>!decide (c y x < 0)
def So {α : Type} (c : α → α → Int) (l : List α) : Prop :=
 (∀ x,¬ c x x < 0) ∧ (∀ x y z,c x y < 0 → c y z < 0 → c x z < 0) ∧ (∀ x y z,¬ c x y < 0 → ¬ c y z < 0 → ¬ c x z < 0) ∧ ∀ x ∈ l,∀ y ∈ l,¬ c x y < 0 → ¬ c y x < 0 → x = y
section
variable {α σ R : Type}
end
section
variable {κ ν : Type} [DecidableEq κ]
def Pq : List (κ × ν) → κ → ν → List (κ × ν)
 | [],k,v=>[(k,v)]
 | (k',v') :: m,k,v=>if k = k' then (k,v) :: m else (k',v') :: Pq m k v
def Nr : List (κ × ν) → κ → Nat → Option (Nat × ν)
 | [],_,_=>none
 | (k',v') :: m,k,i=>if k = k' then some (i,v') else Nr m k (i + 1)
def Yn (m : List (κ × ν)) (k : κ) : Option ν:=(Nr m k 0).map (·.2)
def Tu (m : List (κ × ν)) (k : κ) (d : ν) : ν:=(Yn m k).getD d
end
end Go.Proofs.YtgfjjiheamdgbaaGreatDoor
