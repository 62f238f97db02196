/- Values that hold slices: their rows in memory are raw (a raw slice in place of each list),and a relation says which plain value a row stands for. No statement of the seat is proved here. -/
import Derived.Test.YtlndicofaomdaaaGreatDoorOwn
namespace Go.Proofs.YtlndicofaomdaaaGreatDoor
open Go
abbrev RS:={ v : Value // v.oneCell' = true }
def RS.enc (r : RS) : List Value:=[r.val]
theorem RS.enc_ok : Enc 1 RS.enc:=⟨fun _=>rfl,fun r u h=>by simp [RS.enc] at h; subst h; exact r.property⟩
def RP.enc (b : Nat) : List Value:=[.pointer (some ⟨b,0,none⟩)]
theorem RP.enc_ok : Enc 1 RP.enc:=⟨fun _=>rfl,fun _ u h=>by simp [RP.enc] at h; subst h; rfl⟩
inductive Ko {α β : Type} (R : α → β → Prop) : List α → List β → Prop
 | nil : Ko R [] []
 | cons {x : α} {y : β} {xs : List α} {ys : List β} : R x y → Ko R xs ys → Ko R (x :: xs) (y :: ys)
section
variable {α β : Type} {R R' : α → β → Prop}
theorem Ko.chg (f : ∀ x y,R x y → R' x y) : ∀ {xs : List α} {ys : List β},Ko R xs ys → Ko R' xs ys
 | _,_,.nil=>.nil
 | _,_,.cons h k=>.cons (f _ _ h) (Ko.chg f k)
theorem Ko.len : ∀ {xs : List α} {ys : List β},Ko R xs ys → xs.length = ys.length
 | _,_,.nil=>rfl
 | _,_,.cons _ k=>by simp [Ko.len k]
theorem Ko.at : ∀ {xs : List α} {ys : List β},Ko R xs ys → ∀ {j : Nat} {x : α},xs[j]? = some x → ∃ y,ys[j]? = some y ∧ R x y
 | _,_,.nil,_,_,h=>by simp at h
 | _,_,.cons (y:=y) h _,0,x,e=>by simp at e; subst e; exact ⟨y,rfl,h⟩
 | _,_,.cons _ k,j + 1,x,e=>by simpa using Ko.at k (by simpa using e)
theorem Ko.one {x : α} {y : β} (h : R x y) : Ko R [x] [y]:=.cons h .nil
theorem Ko.tk : ∀ {xs : List α} {ys : List β},Ko R xs ys → ∀ n,Ko R (xs.take n) (ys.take n)
 | _,_,.nil,n=>by simp; exact .nil
 | _,_,.cons _ _,0=>by simp; exact .nil
 | _,_,.cons h k,n + 1=>by simp; exact .cons h (Ko.tk k n)
theorem Ko.dp : ∀ {xs : List α} {ys : List β},Ko R xs ys → ∀ n,Ko R (xs.drop n) (ys.drop n)
 | _,_,.nil,n=>by simp; exact .nil
 | _,_,.cons h k,0=>.cons h k
 | _,_,.cons _ k,n + 1=>by simp; exact Ko.dp k n
theorem Ko.cut {xs : List α} {ys : List β} (h : Ko R xs ys) (l k : Int) : Ko R (Go.Proofs.YtlndicofaomdaaaGreatDoor.cut xs l k) (Go.Proofs.YtlndicofaomdaaaGreatDoor.cut ys l k):=(h.tk _).dp _
end
def SlcD {α β : Type} (φ : View) (k : Nat) (enc : β → List Value) (rel : View → α → β → Prop) (v : Value) (xs : List α) : Prop:=∃ rs,Slc φ k v (rs.map enc) ∧ Ko (rel φ) xs rs
theorem SlcD.mono {α β : Type} {φ ψ : View} {k : Nat} {enc : β → List Value} {rel : View → α → β → Prop} {v : Value} {xs : List α} (hm : ∀ x r,rel φ x r → rel ψ x r) (l : View.le φ ψ) (h : SlcD φ k enc rel v xs) : SlcD ψ k enc rel v xs:=by
 obtain ⟨rs,h1,h2⟩:=h
 exact ⟨rs,h1.mono l,h2.chg hm⟩
section
variable {α β : Type} {enc : β → List Value} {R : α → β → Prop}
theorem AY {ψ : View} {k : Nat} {v : Value} {xs : List α} {rs : List β} (h : Slc ψ k v (rs.map enc)) (hr : Ko R xs rs) : Fl v xs.length:=by rw [hr.len]; exact Ey h
theorem AZ {ψ : View} {k : Nat} {v : Value} {xs : List α} {rs : List β} (h : Slc ψ k v (rs.map enc)) (hr : Ko R xs rs) : xs.length ≤ 9223372036854775807:=by rw [hr.len]; exact Kl h
end
section
variable {w0 : World} {X : List Nat} {φ : View} {L : List LEnt} {K : List (Nat × Value)} {n : Nat} {a : Act} {w : World}
theorem newO {wo : World} {T k m : Nat} {v : Value} {cs : List Value} {Y : List Nat} (ho : Pk (newer wo w) T k v m cs) : ∀ y ∈ v.ownBlock.toList,wo.heap.size ≤ y ∨ y ∈ Y:=by
 intro y hy
 left
 rcases ho.2 with ⟨rfl,_⟩ | ⟨g,cap,cur,rfl,h2,_⟩
 ·simp [Value.ownBlock] at hy
 ·simp [Value.ownBlock] at hy
  subst hy
  unfold newer at h2
  split at h2
  ·rename_i h; exact h
  ·cases h2
theorem BA {wo : World} {T k m : Nat} {v : Value} {cs : List Value} {Y : List Nat} (ho : Pk (newer wo w) T k v m cs) : ∀ y ∈ v.ownBlock.toList ++ Y,wo.heap.size ≤ y ∨ y ∈ Y:=fun y hy =>
 (List.mem_append.1 hy).elim (newO ho y) .inr
theorem Tw {φ ψ χ : View} (h : View.le φ χ) (k : View.le ψ χ) : View.le (join φ ψ) χ:=by
 intro b o e
 unfold join at e
 cases hφ : φ b with
 | none=>rw [hφ] at e; exact k b o (by simpa using e)
 | some o'=>rw [hφ] at e; simp at e; subst e; exact h b o' hφ
theorem FN {ψ : View} (h : Emb φ w) (k : Emb ψ w) : View.le ψ (join φ ψ):=by
 intro b o e
 unfold join
 cases hb : φ b with
 | none=>simpa using e
 | some o' =>
  have h1:=h b o' hb
  have h2:=k b o e
  rw [h1] at h2
  simpa using h2
theorem Sx.grow {ψ : View} (S : Sx w0 X φ L K n a w) (he : Emb ψ w) (hf : ∀ b o,ψ b = some o → w0.heap.size ≤ b) (hs : ∀ b ∈ fps L,ψ b = none) : Sx w0 X (join φ ψ) L K n a w:=by
 refine { S with emb:=?_,fresh:=?_,sep:=?_ }
 ·intro b o h
  unfold join at h
  cases hφ : φ b with
  | some o'=>rw [hφ] at h; cases h; exact S.emb b _ hφ
  | none=>rw [hφ] at h; exact he b o (by simpa using h)
 ·intro b o h
  unfold join at h
  cases hφ : φ b with
  | some o'=>exact S.fresh b _ hφ
  | none=>rw [hφ] at h; exact hf b o (by simpa using h)
 ·intro b hb
  have h1:=S.sep b hb
  refine ⟨?_,h1.2⟩
  unfold join
  rw [h1.1,hs b hb]
  rfl
def KW {α β : Type} (φ : View) (T : Nat) (enc : β → List Value) (rel : View → α → β → Prop) (v : Value) : Option α → Prop
 | none=>v = .pointer none
 | some x=>∃ b q,v = .pointer (some ⟨b,0,none⟩) ∧ rel φ x q ∧ φ b = some (.cells (enc q).toArray T (0,0))
theorem KW.mono {α β : Type} {φ ψ : View} {T : Nat} {enc : β → List Value} {rel : View → α → β → Prop} {v : Value} {x : Option α} (hm : ∀ x r,rel φ x r → rel ψ x r) (l : View.le φ ψ) (h : KW φ T enc rel v x) : KW ψ T enc rel v x:=by
 cases x with
 | none=>exact h
 | some x =>
  obtain ⟨b,q,h1,h2,h3⟩:=h
  exact ⟨b,q,h1,hm _ _ h2,l _ _ h3⟩
theorem KW.mk {α β : Type} {φ : View} {T b : Nat} {enc : β → List Value} {rel : View → α → β → Prop} {x : α} (q : β) (h : rel φ x q) (k : φ b = some (.cells (enc q).toArray T (0,0))) : KW φ T enc rel (.pointer (some ⟨b,0,none⟩)) (some x):=⟨b,q,rfl,h,k⟩
end
end Go.Proofs.YtlndicofaomdaaaGreatDoor
