/- Words that the plain twins of the Go functions use: Go's int arithmetic, the order of strings, joins, checks. No program stands here. -/
import GoSem.Core.View
import GoSem.Op.String
import Derived.Lib.Bytealg
import Derived.Lib.SlTrimSet
namespace Go.Proofs.YtkpjakcepffimaaGreatDoor
open Go

def W (n : Int) : Int := IntKind.i64.wrap n
theorem W_eq (n : Int) : W n = if 9223372036854775808 ≤ n % 18446744073709551616 then n % 18446744073709551616 - 18446744073709551616 else n % 18446744073709551616 := by
  simp [W, IntKind.wrap, IntKind.bits, IntKind.signed]
theorem W_in {n : Int} (h1 : -9223372036854775808 ≤ n) (h2 : n ≤ 9223372036854775807) : W n = n := by
  rw [W_eq]
  split <;> omega
def Sless (s t : ByteArray) : Bool := Op.bytesLess s.toList t.toList

def Join {κ R : Type} (K : κ) (f : κ → R) : R := f K
theorem joinE {κ R : Type} {K : κ} {f : κ → R} {r : R} (h : Join K f = r) : ∃ j, j = K ∧ f j = r := ⟨K, rfl, h⟩
theorem bindE {α β : Type} {o : Option α} {f : α → Option β} {r : β} (h : Option.bind o f = some r) : ∃ x, o = some x ∧ f x = some r := by
  cases o with
  | none => cases h
  | some x => exact ⟨x, rfl, h⟩
theorem iteT {R : Type} {b : Bool} {A B r : R} (h : (if b then A else B) = r) (hb : b = true) : A = r := by rw [if_pos hb] at h; exact h
theorem iteF {R : Type} {b : Bool} {A B r : R} (h : (if b then A else B) = r) (hb : b = false) : B = r := by rw [if_neg (by simp [hb])] at h; exact h
theorem neq_t {b : Bool} (h : b = true) : (b == false) = false := by subst h; rfl
theorem neq_f {b : Bool} (h : b = false) : (b == true) = false := by subst h; rfl
def Chk {R : Type} (c : Bool) (k : Option R) : Option R := if c then k else none
theorem chkE {R : Type} {c : Bool} {k : Option R} {r : R} (h : Chk c k = some r) : c = true ∧ k = some r := by
  unfold Chk at h
  cases c with
  | true => exact ⟨rfl, h⟩
  | false => cases h
def inB (e : Int) (n : Nat) : Bool := decide (0 ≤ e) && decide (e < n)
def nth {α : Type} [Inhabited α] (l : List α) (e : Int) : α := l.getD e.toNat default
theorem inB_iff {e : Int} {n : Nat} : inB e n = true ↔ 0 ≤ e ∧ e < n := by simp [inB]
theorem inB_get {α : Type} [Inhabited α] {l : List α} {e : Int} (h : inB e l.length = true) : l[e.toNat]? = some (nth l e) ∧ e = (e.toNat : Int) := by
  obtain ⟨h1, h2⟩ := inB_iff.1 h
  have h3 : e.toNat < l.length := by omega
  exact ⟨by simp [nth, List.getD, List.getElem?_eq_getElem h3], by omega⟩
theorem get_mid {α : Type} {xs done ys : List α} {x : α} {i : Nat} (h : xs = done ++ x :: ys) (hi : done.length = i) : xs[i]? = some x := by subst h hi; simp
theorem room_lt {n : Nat} (h : decide (n < 1073741824) = true) : n < 1073741824 := by simpa using h
def room (n : Nat) : Bool := decide (n < 1073741824)
def imax (m n : Int) : Int := if n > m then n else m
def imin (m n : Int) : Int := if n < m then n else m
def sbyte (s : ByteArray) (e : Int) : Int := ((s.data.toList.getD e.toNat 0).toNat : Int)
def cutB (l h : Int) (n : Nat) : Bool := decide (0 ≤ l) && decide (l ≤ h) && decide (h ≤ n)
def cut {α : Type} (xs : List α) (l h : Int) : List α := (xs.take h.toNat).drop l.toNat
def scut (s : ByteArray) (l h : Int) : ByteArray := s.extract l.toNat h.toNat
theorem cutB_iff {l h : Int} {n : Nat} : cutB l h n = true ↔ 0 ≤ l ∧ l ≤ h ∧ h ≤ n := by simp [cutB, and_assoc]
section
variable {α σ R : Type}
end
section
variable {κ ν : Type} [DecidableEq κ]
def mfind : List (κ × ν) → κ → Nat → Option (Nat × ν)
  | [], _, _ => none
  | (k', v') :: m, k, i => if k = k' then some (i, v') else mfind m k (i + 1)
end
end Go.Proofs.YtkpjakcepffimaaGreatDoor
