/- Values that hold slices: their rows in memory are raw (a raw slice in place of each list),and a relation says which plain value a row stands for. No statement of the seat is proved here. -/
import Derived.Test.YthlanmcejeohmaaGreatDoorOwn
namespace Go.Proofs.YthlanmcejeohmaaGreatDoor
open Go
abbrev RS:={ v : Value // v.oneCell' = true }
def RS.enc (r : RS) : List Value:=[r.val]
theorem RS.enc_ok : Enc 1 RS.enc:=⟨fun _=>rfl,fun r u h=>by simp [RS.enc] at h; subst h; exact r.property⟩
def RP.enc (b : Nat) : List Value:=[.pointer (some ⟨b,0,none⟩)]
theorem RP.enc_ok : Enc 1 RP.enc:=⟨fun _=>rfl,fun _ u h=>by simp [RP.enc] at h; subst h; rfl⟩
inductive Nc {α β : Type} (R : α → β → Prop) : List α → List β → Prop
 | nil : Nc R [] []
 | cons {x : α} {y : β} {xs : List α} {ys : List β} : R x y → Nc R xs ys → Nc R (x :: xs) (y :: ys)
section
variable {α β : Type} {R R' : α → β → Prop}
theorem Nc.chg (f : ∀ x y,R x y → R' x y) : ∀ {xs : List α} {ys : List β},Nc R xs ys → Nc R' xs ys
 | _,_,.nil=>.nil
 | _,_,.cons h k=>.cons (f _ _ h) (Nc.chg f k)
theorem Nc.len : ∀ {xs : List α} {ys : List β},Nc R xs ys → xs.length = ys.length
 | _,_,.nil=>rfl
 | _,_,.cons _ k=>by simp [Nc.len k]
theorem Nc.at : ∀ {xs : List α} {ys : List β},Nc R xs ys → ∀ {j : Nat} {x : α},xs[j]? = some x → ∃ y,ys[j]? = some y ∧ R x y
 | _,_,.nil,_,_,h=>by simp at h
 | _,_,.cons (y:=y) h _,0,x,e=>by simp at e; subst e; exact ⟨y,rfl,h⟩
 | _,_,.cons _ k,j + 1,x,e=>by simpa using Nc.at k (by simpa using e)
theorem Nc.one {x : α} {y : β} (h : R x y) : Nc R [x] [y]:=.cons h .nil
theorem Nc.tk : ∀ {xs : List α} {ys : List β},Nc R xs ys → ∀ n,Nc R (xs.take n) (ys.take n)
 | _,_,.nil,n=>by simp; exact .nil
 | _,_,.cons _ _,0=>by simp; exact .nil
 | _,_,.cons h k,n + 1=>by simp; exact .cons h (Nc.tk k n)
theorem Nc.dp : ∀ {xs : List α} {ys : List β},Nc R xs ys → ∀ n,Nc R (xs.drop n) (ys.drop n)
 | _,_,.nil,n=>by simp; exact .nil
 | _,_,.cons h k,0=>.cons h k
 | _,_,.cons _ k,n + 1=>by simp; exact Nc.dp k n
theorem Nc.cut {xs : List α} {ys : List β} (h : Nc R xs ys) (l k : Int) : Nc R (Go.Proofs.YthlanmcejeohmaaGreatDoor.cut xs l k) (Go.Proofs.YthlanmcejeohmaaGreatDoor.cut ys l k):=(h.tk _).dp _
end
def SlcD {α β : Type} (φ : View) (k : Nat) (enc : β → List Value) (rel : View → α → β → Prop) (v : Value) (xs : List α) : Prop:=∃ rs,Slc φ k v (rs.map enc) ∧ Nc (rel φ) xs rs
theorem SlcD.mono {α β : Type} {φ ψ : View} {k : Nat} {enc : β → List Value} {rel : View → α → β → Prop} {v : Value} {xs : List α} (hm : ∀ x r,rel φ x r → rel ψ x r) (l : View.le φ ψ) (h : SlcD φ k enc rel v xs) : SlcD ψ k enc rel v xs:=by
 obtain ⟨rs,h1,h2⟩:=h
 exact ⟨rs,h1.mono l,h2.chg hm⟩
section
variable {α β : Type} {enc : β → List Value} {R : α → β → Prop}
end
section
variable {w0 : World} {X : List Nat} {φ : View} {L : List LEnt} {K : List (Nat × Value)} {n : Nat} {a : Act} {w : World}
def CY {α β : Type} (φ : View) (T : Nat) (enc : β → List Value) (rel : View → α → β → Prop) (v : Value) : Option α → Prop
 | none=>v = .pointer none
 | some x=>∃ b q,v = .pointer (some ⟨b,0,none⟩) ∧ rel φ x q ∧ φ b = some (.cells (enc q).toArray T (0,0))
theorem CY.mono {α β : Type} {φ ψ : View} {T : Nat} {enc : β → List Value} {rel : View → α → β → Prop} {v : Value} {x : Option α} (hm : ∀ x r,rel φ x r → rel ψ x r) (l : View.le φ ψ) (h : CY φ T enc rel v x) : CY ψ T enc rel v x:=by
 cases x with
 | none=>exact h
 | some x =>
  obtain ⟨b,q,h1,h2,h3⟩:=h
  exact ⟨b,q,h1,hm _ _ h2,l _ _ h3⟩
theorem CY.mk {α β : Type} {φ : View} {T b : Nat} {enc : β → List Value} {rel : View → α → β → Prop} {x : α} (q : β) (h : rel φ x q) (k : φ b = some (.cells (enc q).toArray T (0,0))) : CY φ T enc rel (.pointer (some ⟨b,0,none⟩)) (some x):=⟨b,q,rfl,h,k⟩
end
end Go.Proofs.YthlanmcejeohmaaGreatDoor
