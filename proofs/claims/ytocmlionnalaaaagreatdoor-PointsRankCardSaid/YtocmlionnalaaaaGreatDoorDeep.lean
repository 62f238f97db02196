/- Values that hold slices: their rows in memory are raw (a raw slice in place of each list),and a relation says which plain value a row stands for. No statement of the seat is proved here. -/
import Derived.Test.YtocmlionnalaaaaGreatDoorOwn
namespace Go.Proofs.YtocmlionnalaaaaGreatDoor
open Go
abbrev RS:={ v : Value // v.oneCell' = true }
def RS.enc (r : RS) : List Value:=[r.val]
theorem RS.enc_ok : Enc 1 RS.enc:=⟨fun _=>rfl,fun r u h=>by simp [RS.enc] at h; subst h; exact r.property⟩
def RP.enc (b : Nat) : List Value:=[.pointer (some ⟨b,0,none⟩)]
theorem RP.enc_ok : Enc 1 RP.enc:=⟨fun _=>rfl,fun _ u h=>by simp [RP.enc] at h; subst h; rfl⟩
inductive Ko {α β : Type} (R : α → β → Prop) : List α → List β → Prop
 | nil : Ko R [] []
 | cons {x : α} {y : β} {xs : List α} {ys : List β} : R x y → Ko R xs ys → Ko R (x :: xs) (y :: ys)
section
variable {α β : Type} {R R' : α → β → Prop}
theorem Ko.chg (f : ∀ x y,R x y → R' x y) : ∀ {xs : List α} {ys : List β},Ko R xs ys → Ko R' xs ys
 | _,_,.nil=>.nil
 | _,_,.cons h k=>.cons (f _ _ h) (Ko.chg f k)
theorem Ko.len : ∀ {xs : List α} {ys : List β},Ko R xs ys → xs.length = ys.length
 | _,_,.nil=>rfl
 | _,_,.cons _ k=>by simp [Ko.len k]
theorem Ko.at : ∀ {xs : List α} {ys : List β},Ko R xs ys → ∀ {j : Nat} {x : α},xs[j]? = some x → ∃ y,ys[j]? = some y ∧ R x y
 | _,_,.nil,_,_,h=>by simp at h
 | _,_,.cons (y:=y) h _,0,x,e=>by simp at e; subst e; exact ⟨y,rfl,h⟩
 | _,_,.cons _ k,j + 1,x,e=>by simpa using Ko.at k (by simpa using e)
theorem Ko.app : ∀ {xs xs' : List α} {ys ys' : List β},Ko R xs ys → Ko R xs' ys' → Ko R (xs ++ xs') (ys ++ ys')
 | _,_,_,_,.nil,k=>k
 | _,_,_,_,.cons h k,l=>.cons h (Ko.app k l)
theorem Ko.one {x : α} {y : β} (h : R x y) : Ko R [x] [y]:=.cons h .nil
theorem Ko.tk : ∀ {xs : List α} {ys : List β},Ko R xs ys → ∀ n,Ko R (xs.take n) (ys.take n)
 | _,_,.nil,n=>by simp; exact .nil
 | _,_,.cons _ _,0=>by simp; exact .nil
 | _,_,.cons h k,n + 1=>by simp; exact .cons h (Ko.tk k n)
theorem Ko.dp : ∀ {xs : List α} {ys : List β},Ko R xs ys → ∀ n,Ko R (xs.drop n) (ys.drop n)
 | _,_,.nil,n=>by simp; exact .nil
 | _,_,.cons h k,0=>.cons h k
 | _,_,.cons _ k,n + 1=>by simp; exact Ko.dp k n
theorem Ko.cut {xs : List α} {ys : List β} (h : Ko R xs ys) (l k : Int) : Ko R (Go.Proofs.YtocmlionnalaaaaGreatDoor.cut xs l k) (Go.Proofs.YtocmlionnalaaaaGreatDoor.cut ys l k):=(h.tk _).dp _
end
def SlcD {α β : Type} (φ : View) (k : Nat) (enc : β → List Value) (rel : View → α → β → Prop) (v : Value) (xs : List α) : Prop:=∃ rs,Slc φ k v (rs.map enc) ∧ Ko (rel φ) xs rs
theorem SlcD.mono {α β : Type} {φ ψ : View} {k : Nat} {enc : β → List Value} {rel : View → α → β → Prop} {v : Value} {xs : List α} (hm : ∀ x r,rel φ x r → rel ψ x r) (l : View.le φ ψ) (h : SlcD φ k enc rel v xs) : SlcD ψ k enc rel v xs:=by
 obtain ⟨rs,h1,h2⟩:=h
 exact ⟨rs,h1.mono l,h2.chg hm⟩
section
variable {α β : Type} {enc : β → List Value} {R : α → β → Prop}
theorem Wu {ψ : View} {k : Nat} {v : Value} {xs : List α} {rs : List β} (h : Slc ψ k v (rs.map enc)) (hr : Ko R xs rs) : Mv v xs.length:=by rw [hr.len]; exact Ew h
theorem Wv {ψ : View} {k : Nat} {v : Value} {xs : List α} {rs : List β} (h : Slc ψ k v (rs.map enc)) (hr : Ko R xs rs) : xs.length ≤ 9223372036854775807:=by rw [hr.len]; exact Il h
end
section
variable {w0 : World} {X : List Nat} {φ : View} {L : List LEnt} {K : List (Nat × Value)} {n : Nat} {a : Act} {w : World}
theorem Yy {φ ψ χ : View} (h : View.le φ χ) (k : View.le ψ χ) : View.le (join φ ψ) χ:=by
 intro b o e
 unfold join at e
 cases hφ : φ b with
 | none=>rw [hφ] at e; exact k b o (by simpa using e)
 | some o'=>rw [hφ] at e; simp at e; subst e; exact h b o' hφ
theorem Oz {φ ψ : View} {w : World} (h : Emb φ w) (k : Emb ψ w) : Emb (join φ ψ) w:=by
 intro b o e
 unfold join at e
 cases hφ : φ b with
 | none=>rw [hφ] at e; exact k b o (by simpa using e)
 | some o'=>rw [hφ] at e; simp at e; subst e; exact h b o' hφ
theorem EA {φ ψ : View} {w : World} (h : View.le φ ψ) (k : Emb ψ w) : Emb φ w:=fun b o e=>k b o (h b o e)
theorem Zp {ψ φ φ' : View} (h : View.le φ φ') : View.le (join ψ φ) (join ψ φ'):=by
 intro b o e
 unfold join at e ⊢
 cases hb : ψ b with
 | none=>rw [hb] at e; simp at e ⊢; exact h b o e
 | some o'=>rw [hb] at e; simpa using e
theorem Zq {ψ φ φ' τ : View} (h : View.le φ φ') (k : View.le τ φ') : View.le (join (join ψ φ) τ) (join ψ φ'):=by
 intro b o e
 unfold join at e ⊢
 cases hb : ψ b with
 | none =>
  rw [hb] at e
  simp only [Option.none_or] at e ⊢
  cases hc : φ b with
  | none=>rw [hc] at e; exact k b o (by simpa using e)
  | some o'=>rw [hc] at e; simp at e; subst e; exact h b o' hc
 | some o'=>rw [hb] at e; simpa using e
theorem BS {ψ φ : View} {w0 w : World} {X : List Nat} (_ : View.le ψ (view w0 X)) (k : View.le φ (newer w0 w)) : View.le (join ψ φ) (join ψ (newer w0 w)):=Zp k
theorem Sx.all_right {ψ : View} (S : Sx w0 X φ L K n a w) (hψ : View.le ψ (view w0 X)) : View.le φ (join ψ φ):=by
 refine le_join_right fun b o h=>?_
 cases hb : φ b with
 | none=>rfl
 | some o' =>
  have h1:=S.fresh b o' hb
  have h2:=hψ b o h
  unfold view at h2
  split at h2
  ·cases h2
  ·have:=heap_lt h2
   omega
theorem Sx.grow {ψ : View} (S : Sx w0 X φ L K n a w) (he : Emb ψ w) (hf : ∀ b o,ψ b = some o → w0.heap.size ≤ b) (hs : ∀ b ∈ fps L,ψ b = none) : Sx w0 X (join φ ψ) L K n a w:=by
 refine { S with emb:=?_,fresh:=?_,sep:=?_ }
 ·intro b o h
  unfold join at h
  cases hφ : φ b with
  | some o'=>rw [hφ] at h; cases h; exact S.emb b _ hφ
  | none=>rw [hφ] at h; exact he b o (by simpa using h)
 ·intro b o h
  unfold join at h
  cases hφ : φ b with
  | some o'=>exact S.fresh b _ hφ
  | none=>rw [hφ] at h; exact hf b o (by simpa using h)
 ·intro b hb
  have h1:=S.sep b hb
  refine ⟨?_,h1.2⟩
  unfold join
  rw [h1.1,hs b hb]
  rfl
def EB {α β : Type} (φ : View) (T : Nat) (enc : β → List Value) (rel : View → α → β → Prop) (v : Value) : Option α → Prop
 | none=>v = .pointer none
 | some x=>∃ b q,v = .pointer (some ⟨b,0,none⟩) ∧ rel φ x q ∧ φ b = some (.cells (enc q).toArray T (0,0))
theorem EB.mono {α β : Type} {φ ψ : View} {T : Nat} {enc : β → List Value} {rel : View → α → β → Prop} {v : Value} {x : Option α} (hm : ∀ x r,rel φ x r → rel ψ x r) (l : View.le φ ψ) (h : EB φ T enc rel v x) : EB ψ T enc rel v x:=by
 cases x with
 | none=>exact h
 | some x =>
  obtain ⟨b,q,h1,h2,h3⟩:=h
  exact ⟨b,q,h1,hm _ _ h2,l _ _ h3⟩
theorem EB.mk {α β : Type} {φ : View} {T b : Nat} {enc : β → List Value} {rel : View → α → β → Prop} {x : α} (q : β) (h : rel φ x q) (k : φ b = some (.cells (enc q).toArray T (0,0))) : EB φ T enc rel (.pointer (some ⟨b,0,none⟩)) (some x):=⟨b,q,rfl,h,k⟩
end
end Go.Proofs.YtocmlionnalaaaaGreatDoor
