/- Words that the plain twins of the Go functions use: Go's int arithmetic,the order of strings,joins,checks. No program stands here. -/
import GoSem.Core.View
import GoSem.Op.String
import Derived.Lib.Bytealg
import Derived.Lib.SlTrimSet
namespace Go.Proofs.YtdndpbbimcilpaaGreatDoor
open Go

def Kt (k : IntKind) (x y : Int) : Int:=k.wrap (BitVec.ofInt k.bits x &&& BitVec.ofInt k.bits y).toNat
def Oy (k : IntKind) (x y : Int) : Int:=k.wrap (BitVec.ofInt k.bits x ||| BitVec.ofInt k.bits y).toNat
def Ef (k : IntKind) (x y : Int) : Int:=k.wrap (x * 2 ^ (min y.toNat k.bits))
def Ex (k : IntKind) (x y : Int) : Int:=x.fdiv (2 ^ (min y.toNat k.bits))
def W (n : Int) : Int:=IntKind.i64.wrap n
theorem W_eq (n : Int) : W n = if 9223372036854775808 ≤ n % 18446744073709551616 then n % 18446744073709551616 - 18446744073709551616 else n % 18446744073709551616:=by
 simp [W,IntKind.wrap,IntKind.bits,IntKind.signed]
theorem Px {n : Int} (h1 : -9223372036854775808 ≤ n) (h2 : n ≤ 9223372036854775807) : W n = n:=by
 rw [W_eq]
 split <;> omega
def AZ (s t : ByteArray) : Bool:=Op.bytesLess s.toList t.toList

def Gd {κ R : Type} (K : κ) (f : κ → R) : R:=f K
theorem Eo {κ R : Type} {K : κ} {f : κ → R} {r : R} (h : Gd K f = r) : ∃ j,j = K ∧ f j = r:=⟨K,rfl,h⟩
theorem Ej {α β : Type} {o : Option α} {f : α → Option β} {r : β} (h : Option.bind o f = some r) : ∃ x,o = some x ∧ f x = some r:=by
 cases o with
 | none=>cases h
 | some x=>exact ⟨x,rfl,h⟩
theorem Rb {R : Type} {b : Bool} {A B r : R} (h : (if b then A else B) = r) (hb : b = true) : A = r:=by rw [if_pos hb] at h; exact h
theorem Rc {R : Type} {b : Bool} {A B r : R} (h : (if b then A else B) = r) (hb : b = false) : B = r:=by rw [if_neg (by simp [hb])] at h; exact h
theorem Ki {b : Bool} (h : b = true) : (b == false) = false:=by subst h; rfl
theorem Jk {b : Bool} (h : b = false) : (b == true) = false:=by subst h; rfl
def Chk {R : Type} (c : Bool) (k : Option R) : Option R:=if c then k else none
theorem Gu {R : Type} {c : Bool} {k : Option R} {r : R} (h : Chk c k = some r) : c = true ∧ k = some r:=by
 unfold Chk at h
 cases c with
 | true=>exact ⟨rfl,h⟩
 | false=>cases h
def inB (e : Int) (n : Nat) : Bool:=decide (0 ≤ e) && decide (e < n)
def nth {α : Type} [Inhabited α] (l : List α) (e : Int) : α:=l.getD e.toNat default
theorem Kp {e : Int} {n : Nat} : inB e n = true ↔ 0 ≤ e ∧ e < n:=by simp [inB]
theorem Dc {α : Type} [Inhabited α] {l : List α} {e : Int} (h : inB e l.length = true) : l[e.toNat]? = some (nth l e) ∧ e = (e.toNat : Int):=by
 obtain ⟨h1,h2⟩:=Kp.1 h
 have h3 : e.toNat < l.length:=by omega
 exact ⟨by simp [nth,List.getD,List.getElem?_eq_getElem h3],by omega⟩
theorem Jx {α : Type} {xs done ys : List α} {x : α} {i : Nat} (h : xs = done ++ x :: ys) (hi : done.length = i) : xs[i]? = some x:=by subst h hi; simp
theorem Nm {n : Nat} (h : decide (n < 1073741824) = true) : n < 1073741824:=by simpa using h
def Ti (n : Nat) : Bool:=decide (n < 1073741824)
def Yc (m n : Int) : Int:=if n > m then n else m
def Wi (m n : Int) : Int:=if n < m then n else m
def Ub (s : ByteArray) (e : Int) : Int:=((s.data.toList.getD e.toNat 0).toNat : Int)
def Vo (l h : Int) (n : Nat) : Bool:=decide (0 ≤ l) && decide (l ≤ h) && decide (h ≤ n)
def cut {α : Type} (xs : List α) (l h : Int) : List α:=(xs.take h.toNat).drop l.toNat
def clr {α : Type} (xs : List α) (l h : Int) (z : α) : List α:=xs.take l.toNat ++ List.replicate (h.toNat - l.toNat) z ++ xs.drop h.toNat
def GD (s : ByteArray) (l h : Int) : ByteArray:=s.extract l.toNat h.toNat
theorem Ss {l h : Int} {n : Nat} : Vo l h n = true ↔ 0 ≤ l ∧ l ≤ h ∧ h ≤ n:=by simp [Vo,and_assoc]
section
variable {α σ R : Type}
noncomputable def KZ (m : List α) (F : List α → Option R) : Option R:=open Classical in if h : ∃ r,∀ p : List α,p.Perm m → F p = some r then some h.choose else none
theorem allE {m : List α} {F : List α → Option R} {r : R} (h : KZ m F = some r) : ∀ p : List α,p.Perm m → F p = some r:=by
 unfold KZ at h
 split at h
 ·rename_i hx
  obtain rfl:=Option.some.inj h
  exact hx.choose_spec
 ·cases h
theorem allP_is {m : List α} {F : List α → Option R} {r : R} (h : ∀ p : List α,p.Perm m → F p = some r) : KZ m F = some r:=by
 have hx : ∃ r,∀ p : List α,p.Perm m → F p = some r:=⟨r,h⟩
 unfold KZ
 rw [dif_pos hx]
 have h1:=hx.choose_spec m (List.Perm.refl _)
 rw [h m (List.Perm.refl _)] at h1
 rw [← Option.some.inj h1]
theorem LA {F : List α → Option R} {q : List α} {r : R} (h : ∀ p : List α,p.Perm q → F p = some r) (hq : q = []) : F [] = some r:=h [] (by rw [hq])
theorem JW {F : List α → Option R} {B : Option σ} {G : List α → σ → Option R} {q q' : List α} {e : α} {r : R} (h : ∀ p : List α,p.Perm q → F p = some r) (hp : q.Perm (e :: q')) (he : ∀ ys,F (e :: ys) = Option.bind B (G ys)) :
  ∃ s,B = some s ∧ ∀ ys : List α,ys.Perm q' → G ys s = some r:=by
 have h1 : ∀ ys : List α,ys.Perm q' → Option.bind B (G ys) = some r:=fun ys hy=>by rw [← he]; exact h _ ((hy.cons e).trans hp.symm)
 obtain ⟨s,hs,_⟩:=Ej (h1 q' (List.Perm.refl _))
 exact ⟨s,hs,fun ys hy=>by have:=h1 ys hy; rw [hs] at this; exact this⟩
end
section
variable {κ ν : Type} [DecidableEq κ]
def Fz : List (κ × ν) → κ → ν → List (κ × ν)
 | [],k,v=>[(k,v)]
 | (k',v') :: m,k,v=>if k = k' then (k,v) :: m else (k',v') :: Fz m k v
def Kl : List (κ × ν) → κ → Nat → Option (Nat × ν)
 | [],_,_=>none
 | (k',v') :: m,k,i=>if k = k' then some (i,v') else Kl m k (i + 1)
def Zl (m : List (κ × ν)) (k : κ) : Option ν:=(Kl m k 0).map (·.2)
def Ek (m : List (κ × ν)) (k : κ) (d : ν) : ν:=(Zl m k).getD d
def Wj : List (κ × ν) → κ → List (κ × ν)
 | [],_=>[]
 | (k',v) :: m,k=>if k = k' then m else (k',v) :: Wj m k
end
def Ts (m : Nat) : List Nat:=(List.range m).reverse
end Go.Proofs.YtdndpbbimcilpaaGreatDoor
