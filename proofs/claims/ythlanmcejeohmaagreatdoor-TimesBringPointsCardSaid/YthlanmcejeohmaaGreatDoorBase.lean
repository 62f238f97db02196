/- Words that the plain twins of the Go functions use: Go's int arithmetic,the order of strings,joins,checks. No program stands here. -/
import GoSem.Core.View
import GoSem.Op.String
import Derived.Lib.Bytealg
import Derived.Lib.SlTrimSet
namespace Go.Proofs.YthlanmcejeohmaaGreatDoor
open Go

def Hl (k : IntKind) (x y : Int) : Int:=k.wrap (BitVec.ofInt k.bits x &&& BitVec.ofInt k.bits y).toNat
def Ks (k : IntKind) (x y : Int) : Int:=k.wrap (BitVec.ofInt k.bits x ||| BitVec.ofInt k.bits y).toNat
def Ds (k : IntKind) (x y : Int) : Int:=k.wrap (x * 2 ^ (min y.toNat k.bits))
def Dt (k : IntKind) (x y : Int) : Int:=x.fdiv (2 ^ (min y.toNat k.bits))
def W (n : Int) : Int:=IntKind.i64.wrap n
theorem W_eq (n : Int) : W n = if 9223372036854775808 ≤ n % 18446744073709551616 then n % 18446744073709551616 - 18446744073709551616 else n % 18446744073709551616:=by
 simp [W,IntKind.wrap,IntKind.bits,IntKind.signed]
theorem Kc {n : Int} (h1 : -9223372036854775808 ≤ n) (h2 : n ≤ 9223372036854775807) : W n = n:=by
 rw [W_eq]
 split <;> omega
def To (s t : ByteArray) : Bool:=Op.bytesLess s.toList t.toList

def Hc {κ R : Type} (K : κ) (f : κ → R) : R:=f K
theorem Fk {κ R : Type} {K : κ} {f : κ → R} {r : R} (h : Hc K f = r) : ∃ j,j = K ∧ f j = r:=⟨K,rfl,h⟩
theorem Eu {α β : Type} {o : Option α} {f : α → Option β} {r : β} (h : Option.bind o f = some r) : ∃ x,o = some x ∧ f x = some r:=by
 cases o with
 | none=>cases h
 | some x=>exact ⟨x,rfl,h⟩
theorem Sc {R : Type} {b : Bool} {A B r : R} (h : (if b then A else B) = r) (hb : b = true) : A = r:=by rw [if_pos hb] at h; exact h
theorem Sd {R : Type} {b : Bool} {A B r : R} (h : (if b then A else B) = r) (hb : b = false) : B = r:=by rw [if_neg (by simp [hb])] at h; exact h
theorem Pb {b : Bool} (h : b = true) : (b == false) = false:=by subst h; rfl
theorem Kl {b : Bool} (h : b = false) : (b == true) = false:=by subst h; rfl
def Chk {R : Type} (c : Bool) (k : Option R) : Option R:=if c then k else none
theorem Hx {R : Type} {c : Bool} {k : Option R} {r : R} (h : Chk c k = some r) : c = true ∧ k = some r:=by
 unfold Chk at h
 cases c with
 | true=>exact ⟨rfl,h⟩
 | false=>cases h
def inB (e : Int) (n : Nat) : Bool:=decide (0 ≤ e) && decide (e < n)
def nth {α : Type} [Inhabited α] (l : List α) (e : Int) : α:=l.getD e.toNat default
theorem Im {e : Int} {n : Nat} : inB e n = true ↔ 0 ≤ e ∧ e < n:=by simp [inB]
theorem Dv {α : Type} [Inhabited α] {l : List α} {e : Int} (h : inB e l.length = true) : l[e.toNat]? = some (nth l e) ∧ e = (e.toNat : Int):=by
 obtain ⟨h1,h2⟩:=Im.1 h
 have h3 : e.toNat < l.length:=by omega
 exact ⟨by simp [nth,List.getD,List.getElem?_eq_getElem h3],by omega⟩
theorem Kd {α : Type} {xs done ys : List α} {x : α} {i : Nat} (h : xs = done ++ x :: ys) (hi : done.length = i) : xs[i]? = some x:=by subst h hi; simp
theorem Pq {n : Nat} (h : decide (n < 1073741824) = true) : n < 1073741824:=by simpa using h
def Rh (n : Nat) : Bool:=decide (n < 1073741824)
def Rt (m n : Int) : Int:=if n > m then n else m
def On (m n : Int) : Int:=if n < m then n else m
def Ma (s : ByteArray) (e : Int) : Int:=((s.data.toList.getD e.toNat 0).toNat : Int)
def Pr (l h : Int) (n : Nat) : Bool:=decide (0 ≤ l) && decide (l ≤ h) && decide (h ≤ n)
def cut {α : Type} (xs : List α) (l h : Int) : List α:=(xs.take h.toNat).drop l.toNat
def clr {α : Type} (xs : List α) (l h : Int) (z : α) : List α:=xs.take l.toNat ++ List.replicate (h.toNat - l.toNat) z ++ xs.drop h.toNat
def Xu (s : ByteArray) (l h : Int) : ByteArray:=s.extract l.toNat h.toNat
theorem Lp {l h : Int} {n : Nat} : Pr l h n = true ↔ 0 ≤ l ∧ l ≤ h ∧ h ≤ n:=by simp [Pr,and_assoc]
section
variable {α σ R : Type}
noncomputable def Ul (m : List α) (F : List α → Option R) : Option R:=open Classical in if h : ∃ r,∀ p : List α,p.Perm m → F p = some r then some h.choose else none
theorem allE {m : List α} {F : List α → Option R} {r : R} (h : Ul m F = some r) : ∀ p : List α,p.Perm m → F p = some r:=by
 unfold Ul at h
 split at h
 ·rename_i hx
  obtain rfl:=Option.some.inj h
  exact hx.choose_spec
 ·cases h
theorem Ud {m : List α} {F : List α → Option R} {r : R} (h : ∀ p : List α,p.Perm m → F p = some r) : Ul m F = some r:=by
 have hx : ∃ r,∀ p : List α,p.Perm m → F p = some r:=⟨r,h⟩
 unfold Ul
 rw [dif_pos hx]
 have h1:=hx.choose_spec m (List.Perm.refl _)
 rw [h m (List.Perm.refl _)] at h1
 rw [← Option.some.inj h1]
theorem Se {F : List α → Option R} {q : List α} {r : R} (h : ∀ p : List α,p.Perm q → F p = some r) (hq : q = []) : F [] = some r:=h [] (by rw [hq])
theorem Qv {F : List α → Option R} {B : Option σ} {G : List α → σ → Option R} {q q' : List α} {e : α} {r : R} (h : ∀ p : List α,p.Perm q → F p = some r) (hp : q.Perm (e :: q')) (he : ∀ ys,F (e :: ys) = Option.bind B (G ys)) :
  ∃ s,B = some s ∧ ∀ ys : List α,ys.Perm q' → G ys s = some r:=by
 have h1 : ∀ ys : List α,ys.Perm q' → Option.bind B (G ys) = some r:=fun ys hy=>by rw [← he]; exact h _ ((hy.cons e).trans hp.symm)
 obtain ⟨s,hs,_⟩:=Eu (h1 q' (List.Perm.refl _))
 exact ⟨s,hs,fun ys hy=>by have:=h1 ys hy; rw [hs] at this; exact this⟩
end
section
variable {κ ν : Type} [DecidableEq κ]
def Fz : List (κ × ν) → κ → ν → List (κ × ν)
 | [],k,v=>[(k,v)]
 | (k',v') :: m,k,v=>if k = k' then (k,v) :: m else (k',v') :: Fz m k v
def Ip : List (κ × ν) → κ → Nat → Option (Nat × ν)
 | [],_,_=>none
 | (k',v') :: m,k,i=>if k = k' then some (i,v') else Ip m k (i + 1)
def Oo (m : List (κ × ν)) (k : κ) : Option ν:=(Ip m k 0).map (·.2)
def Gp (m : List (κ × ν)) (k : κ) (d : ν) : ν:=(Oo m k).getD d
end
end Go.Proofs.YthlanmcejeohmaaGreatDoor
