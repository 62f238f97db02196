/- Words that the plain twins of the Go functions use: Go's int arithmetic,the order of strings,joins,checks. No program stands here. -/
import GoSem.Core.View
import GoSem.Op.String
import Derived.Lib.Bytealg
import Derived.Lib.SlTrimSet
namespace Go.Proofs.YtocmlionnalaaaaGreatDoor
open Go

def Iy (k : IntKind) (x y : Int) : Int:=k.wrap (BitVec.ofInt k.bits x &&& BitVec.ofInt k.bits y).toNat
def Lw (k : IntKind) (x y : Int) : Int:=k.wrap (BitVec.ofInt k.bits x ||| BitVec.ofInt k.bits y).toNat
def Dc (k : IntKind) (x y : Int) : Int:=k.wrap (x * 2 ^ (min y.toNat k.bits))
def Dt (k : IntKind) (x y : Int) : Int:=x.fdiv (2 ^ (min y.toNat k.bits))
def W (n : Int) : Int:=IntKind.i64.wrap n
theorem W_eq (n : Int) : W n = if 9223372036854775808 ≤ n % 18446744073709551616 then n % 18446744073709551616 - 18446744073709551616 else n % 18446744073709551616:=by
 simp [W,IntKind.wrap,IntKind.bits,IntKind.signed]
theorem Jw {n : Int} (h1 : -9223372036854775808 ≤ n) (h2 : n ≤ 9223372036854775807) : W n = n:=by
 rw [W_eq]
 split <;> omega
def DK (s t : ByteArray) : Bool:=Op.bytesLess s.toList t.toList

def Ex {κ R : Type} (K : κ) (f : κ → R) : R:=f K
theorem Dw {κ R : Type} {K : κ} {f : κ → R} {r : R} (h : Ex K f = r) : ∃ j,j = K ∧ f j = r:=⟨K,rfl,h⟩
theorem Em {α β : Type} {o : Option α} {f : α → Option β} {r : β} (h : Option.bind o f = some r) : ∃ x,o = some x ∧ f x = some r:=by
 cases o with
 | none=>cases h
 | some x=>exact ⟨x,rfl,h⟩
theorem Oo {R : Type} {b : Bool} {A B r : R} (h : (if b then A else B) = r) (hb : b = true) : A = r:=by rw [if_pos hb] at h; exact h
theorem Oq {R : Type} {b : Bool} {A B r : R} (h : (if b then A else B) = r) (hb : b = false) : B = r:=by rw [if_neg (by simp [hb])] at h; exact h
theorem Nz {b : Bool} (h : b = true) : (b == false) = false:=by subst h; rfl
theorem Jh {b : Bool} (h : b = false) : (b == true) = false:=by subst h; rfl
def Chk {R : Type} (c : Bool) (k : Option R) : Option R:=if c then k else none
theorem Gn {R : Type} {c : Bool} {k : Option R} {r : R} (h : Chk c k = some r) : c = true ∧ k = some r:=by
 unfold Chk at h
 cases c with
 | true=>exact ⟨rfl,h⟩
 | false=>cases h
def inB (e : Int) (n : Nat) : Bool:=decide (0 ≤ e) && decide (e < n)
def nth {α : Type} [Inhabited α] (l : List α) (e : Int) : α:=l.getD e.toNat default
theorem Ge {e : Int} {n : Nat} : inB e n = true ↔ 0 ≤ e ∧ e < n:=by simp [inB]
theorem Cn {α : Type} [Inhabited α] {l : List α} {e : Int} (h : inB e l.length = true) : l[e.toNat]? = some (nth l e) ∧ e = (e.toNat : Int):=by
 obtain ⟨h1,h2⟩:=Ge.1 h
 have h3 : e.toNat < l.length:=by omega
 exact ⟨by simp [nth,List.getD,List.getElem?_eq_getElem h3],by omega⟩
theorem Hd {α : Type} {xs done ys : List α} {x : α} {i : Nat} (h : xs = done ++ x :: ys) (hi : done.length = i) : xs[i]? = some x:=by subst h hi; simp
theorem Lh {n : Nat} (h : decide (n < 1073741824) = true) : n < 1073741824:=by simpa using h
def Pj (n : Nat) : Bool:=decide (n < 1073741824)
def imin (m n : Int) : Int:=if n < m then n else m
def Px (s : ByteArray) (e : Int) : Int:=((s.data.toList.getD e.toNat 0).toNat : Int)
def Rz (l h : Int) (n : Nat) : Bool:=decide (0 ≤ l) && decide (l ≤ h) && decide (h ≤ n)
def cut {α : Type} (xs : List α) (l h : Int) : List α:=(xs.take h.toNat).drop l.toNat
def clr {α : Type} (xs : List α) (l h : Int) (z : α) : List α:=xs.take l.toNat ++ List.replicate (h.toNat - l.toNat) z ++ xs.drop h.toNat
def Zi (s : ByteArray) (l h : Int) : ByteArray:=s.extract l.toNat h.toNat
theorem Oa {l h : Int} {n : Nat} : Rz l h n = true ↔ 0 ≤ l ∧ l ≤ h ∧ h ≤ n:=by simp [Rz,and_assoc]
section
variable {α σ R : Type}
end
section
variable {κ ν : Type} [DecidableEq κ]
def Mo : List (κ × ν) → κ → ν → List (κ × ν)
 | [],k,v=>[(k,v)]
 | (k',v') :: m,k,v=>if k = k' then (k,v) :: m else (k',v') :: Mo m k v
def Mi : List (κ × ν) → κ → Nat → Option (Nat × ν)
 | [],_,_=>none
 | (k',v') :: m,k,i=>if k = k' then some (i,v') else Mi m k (i + 1)
def Xh (m : List (κ × ν)) (k : κ) : Option ν:=(Mi m k 0).map (·.2)
def Cr (m : List (κ × ν)) (k : κ) (d : ν) : ν:=(Xh m k).getD d
end
end Go.Proofs.YtocmlionnalaaaaGreatDoor
