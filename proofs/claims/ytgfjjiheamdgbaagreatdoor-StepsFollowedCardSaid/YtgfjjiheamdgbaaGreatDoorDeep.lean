/- Values that hold slices: their rows in memory are raw (a raw slice in place of each list),and a relation says which plain value a row stands for. No statement of the seat is proved here. -/
import Derived.Test.YtgfjjiheamdgbaaGreatDoorOwn
namespace Go.Proofs.YtgfjjiheamdgbaaGreatDoor
open Go
abbrev RS:={ v : Value // v.oneCell' = true }
def RS.enc (r : RS) : List Value:=[r.val]
theorem RS.enc_ok : Enc 1 RS.enc:=⟨fun _=>rfl,fun r u h=>by simp [RS.enc] at h; subst h; exact r.property⟩
def RP.enc (b : Nat) : List Value:=[.pointer (some ⟨b,0,none⟩)]
theorem RP.enc_ok : Enc 1 RP.enc:=⟨fun _=>rfl,fun _ u h=>by simp [RP.enc] at h; subst h; rfl⟩
inductive Fn {α β : Type} (R : α → β → Prop) : List α → List β → Prop
 | nil : Fn R [] []
 | cons {x : α} {y : β} {xs : List α} {ys : List β} : R x y → Fn R xs ys → Fn R (x :: xs) (y :: ys)
section
variable {α β : Type} {R R' : α → β → Prop}
theorem Fn.chg (f : ∀ x y,R x y → R' x y) : ∀ {xs : List α} {ys : List β},Fn R xs ys → Fn R' xs ys
 | _,_,.nil=>.nil
 | _,_,.cons h k=>.cons (f _ _ h) (Fn.chg f k)
theorem Fn.len : ∀ {xs : List α} {ys : List β},Fn R xs ys → xs.length = ys.length
 | _,_,.nil=>rfl
 | _,_,.cons _ k=>by simp [Fn.len k]
theorem Fn.at : ∀ {xs : List α} {ys : List β},Fn R xs ys → ∀ {j : Nat} {x : α},xs[j]? = some x → ∃ y,ys[j]? = some y ∧ R x y
 | _,_,.nil,_,_,h=>by simp at h
 | _,_,.cons (y:=y) h _,0,x,e=>by simp at e; subst e; exact ⟨y,rfl,h⟩
 | _,_,.cons _ k,j + 1,x,e=>by simpa using Fn.at k (by simpa using e)
theorem Fn.app : ∀ {xs xs' : List α} {ys ys' : List β},Fn R xs ys → Fn R xs' ys' → Fn R (xs ++ xs') (ys ++ ys')
 | _,_,_,_,.nil,k=>k
 | _,_,_,_,.cons h k,l=>.cons h (Fn.app k l)
theorem Fn.one {x : α} {y : β} (h : R x y) : Fn R [x] [y]:=.cons h .nil
theorem Fn.tk : ∀ {xs : List α} {ys : List β},Fn R xs ys → ∀ n,Fn R (xs.take n) (ys.take n)
 | _,_,.nil,n=>by simp; exact .nil
 | _,_,.cons _ _,0=>by simp; exact .nil
 | _,_,.cons h k,n + 1=>by simp; exact .cons h (Fn.tk k n)
theorem Fn.dp : ∀ {xs : List α} {ys : List β},Fn R xs ys → ∀ n,Fn R (xs.drop n) (ys.drop n)
 | _,_,.nil,n=>by simp; exact .nil
 | _,_,.cons h k,0=>.cons h k
 | _,_,.cons _ k,n + 1=>by simp; exact Fn.dp k n
theorem Fn.cut {xs : List α} {ys : List β} (h : Fn R xs ys) (l k : Int) : Fn R (Go.Proofs.YtgfjjiheamdgbaaGreatDoor.cut xs l k) (Go.Proofs.YtgfjjiheamdgbaaGreatDoor.cut ys l k):=(h.tk _).dp _
theorem Fn.st : ∀ {xs : List α} {ys : List β},Fn R xs ys → ∀ {x : α} {y : β} (j : Nat),R x y → Fn R (xs.set j x) (ys.set j y)
 | _,_,.nil,_,_,j,_=>by simp; exact .nil
 | _,_,.cons _ k,_,_,0,e=>.cons e k
 | _,_,.cons h k,_,_,j + 1,e=>.cons h (Fn.st k j e)
end
def Zr {α β : Type} (φ : View) (k : Nat) (enc : β → List Value) (rel : View → α → β → Prop) (v : Value) (xs : List α) : Prop:=∃ rs,Slc φ k v (rs.map enc) ∧ Fn (rel φ) xs rs
theorem Zr.mono {α β : Type} {φ ψ : View} {k : Nat} {enc : β → List Value} {rel : View → α → β → Prop} {v : Value} {xs : List α} (hm : ∀ x r,rel φ x r → rel ψ x r) (l : View.le φ ψ) (h : Zr φ k enc rel v xs) : Zr ψ k enc rel v xs:=by
 obtain ⟨rs,h1,h2⟩:=h
 exact ⟨rs,h1.mono l,h2.chg hm⟩
def Xn (φ : View) (v : Value) : View:=fun b=>if v.ownBlock = some b then none else φ b
theorem Yu (φ : View) (v : Value) : View.le (Xn φ v) φ:=by
 intro b o h
 unfold Xn at h
 split at h
 ·cases h
 ·exact h
def OwnD {α β : Type} (φ : View) (T k : Nat) (enc : β → List Value) (rel : View → α → β → Prop) (v : Value) (xs : List α) : Prop:=∃ rs : List β,Le φ T k v rs.length (rs.flatMap enc) ∧ Fn (rel (Xn φ v)) xs rs
section
variable {α β : Type} {enc : β → List Value} {R : α → β → Prop}
theorem Ot {ψ : View} {k : Nat} {v : Value} {xs : List α} {rs : List β} (h : Slc ψ k v (rs.map enc)) (hr : Fn R xs rs) : Fw v xs.length:=by rw [hr.len]; exact Eg h
theorem Qj {ψ : View} {k : Nat} {v : Value} {xs : List α} {rs : List β} (h : Slc ψ k v (rs.map enc)) (hr : Fn R xs rs) : xs.length ≤ 9223372036854775807:=by rw [hr.len]; exact Jk h
theorem Wp [Inhabited α] {xs : List α} {rs : List β} (hr : Fn R xs rs) {e : Int} (h : inB e xs.length = true) : ∃ r,rs[e.toNat]? = some r ∧ R (nth xs e) r:=hr.at (Ct h).1
end
section
variable {w0 : World} {X : List Nat} {φ : View} {L : List LEnt} {K : List (Nat × Value)} {n : Nat} {a : Act} {w : World}
theorem Zs {α β : Type} {R : α → β → Prop} {T k : Nat} {v : Value} {cs : List Value} {xs : List α} {rs : List β} {b : Nat} (h : w.ownsRow b T k v rs.length cs) (hr : Fn R xs rs) : Fw v xs.length:=by rw [hr.len]; exact Ns h
theorem join_le {φ ψ χ : View} (h : View.le φ χ) (k : View.le ψ χ) : View.le (join φ ψ) χ:=by
 intro b o e
 unfold join at e
 cases hφ : φ b with
 | none=>rw [hφ] at e; exact k b o (by simpa using e)
 | some o'=>rw [hφ] at e; simp at e; subst e; exact h b o' hφ
theorem Sx.le_hide {i T k m : Nat} {v : Value} {cs : List Value} (S : Sx w0 X φ L K n a w) (hi : L[i]? = some (.own v T k m cs)) : View.le φ (Xn (newer w0 w) v):=by
 intro b o h
 unfold Xn
 split
 ·rename_i hb
  have:=(S.sep b (Sx.fp_mem (e:=.own v T k m cs) hi hb)).1
  rw [this] at h
  cases h
 ·exact S.le_newer b o h
theorem Zt {ψ : View} (h : Emb φ w) (k : Emb ψ w) : View.le ψ (join φ ψ):=by
 intro b o e
 unfold join
 cases hb : φ b with
 | none=>simpa using e
 | some o' =>
  have h1:=h b o' hb
  have h2:=k b o e
  rw [h1] at h2
  simpa using h2
theorem Sx.grow {ψ : View} (S : Sx w0 X φ L K n a w) (he : Emb ψ w) (hf : ∀ b o,ψ b = some o → w0.heap.size ≤ b) (hs : ∀ b ∈ fps L,ψ b = none) : Sx w0 X (join φ ψ) L K n a w:=by
 refine { S with emb:=?_,fresh:=?_,sep:=?_ }
 ·intro b o h
  unfold join at h
  cases hφ : φ b with
  | some o'=>rw [hφ] at h; cases h; exact S.emb b _ hφ
  | none=>rw [hφ] at h; exact he b o (by simpa using h)
 ·intro b o h
  unfold join at h
  cases hφ : φ b with
  | some o'=>exact S.fresh b _ hφ
  | none=>rw [hφ] at h; exact hf b o (by simpa using h)
 ·intro b hb
  have h1:=S.sep b hb
  refine ⟨?_,h1.2⟩
  unfold join
  rw [h1.1,hs b hb]
  rfl
theorem Sx.takeD {α β : Type} {rel : View → α → β → Prop} (hm : ∀ {φ ψ : View},View.le φ ψ → ∀ x r,rel φ x r → rel ψ x r) {wo : World} {T k m : Nat} {v : Value} {cs : List Value} {xs : List α} {rs : List β} (S : Sx w0 X φ L K n a w) (hn : New wo φ L) (hs : w0.heap.size ≤ wo.heap.size)
  (ho : Le (newer wo w) T k v m cs) (hr : Fn (rel (Xn (newer wo w) v)) xs rs) : ∃ φ',View.le φ φ' ∧ Fn (rel φ') xs rs ∧ Sx w0 X φ' (.own v T k m cs :: L) K n a w:=by
 have S1:=S.take hn hs ho
 have hN : ∀ b o,Xn (newer wo w) v b = some o → wo.heap.size ≤ b:=by
  intro b o h
  have:=Yu _ _ b o h
  unfold newer at this
  split at this
  ·rename_i h'; exact h'
  ·cases this
 have he : Emb (Xn (newer wo w) v) w:=fun b o h=>emb_newer wo w b o (Yu _ _ b o h)
 have S2:=S1.grow he (fun b o h=>Nat.le_trans hs (hN b o h)) (fun b hb=>by
  obtain ⟨x,hx,hc⟩:=Na hb
  rcases List.mem_cons.1 hx with rfl | hx
  ·unfold Xn
   exact if_pos hc
  ·cases h : Xn (newer wo w) v b with
   | none=>rfl
   | some o =>
    have h1:=(hn b (hN b o h)).2
    obtain ⟨i,hi⟩:=List.getElem?_of_mem hx
    exact absurd (Sx.fp_mem hi hc) h1)
 exact ⟨_,le_join_left _ _,hr.chg (hm (Zt S1.emb he)),S2⟩
def Yv {α β : Type} (φ : View) (T : Nat) (enc : β → List Value) (rel : View → α → β → Prop) (v : Value) : Option α → Prop
 | none=>v = .pointer none
 | some x=>∃ b q,v = .pointer (some ⟨b,0,none⟩) ∧ rel φ x q ∧ φ b = some (.cells (enc q).toArray T (0,0))
theorem Yv.mono {α β : Type} {φ ψ : View} {T : Nat} {enc : β → List Value} {rel : View → α → β → Prop} {v : Value} {x : Option α} (hm : ∀ x r,rel φ x r → rel ψ x r) (l : View.le φ ψ) (h : Yv φ T enc rel v x) : Yv ψ T enc rel v x:=by
 cases x with
 | none=>exact h
 | some x =>
  obtain ⟨b,q,h1,h2,h3⟩:=h
  exact ⟨b,q,h1,hm _ _ h2,l _ _ h3⟩
theorem Yv.mk {α β : Type} {φ : View} {T b : Nat} {enc : β → List Value} {rel : View → α → β → Prop} {x : α} (q : β) (h : rel φ x q) (k : φ b = some (.cells (enc q).toArray T (0,0))) : Yv φ T enc rel (.pointer (some ⟨b,0,none⟩)) (some x):=⟨b,q,rfl,h,k⟩
end
end Go.Proofs.YtgfjjiheamdgbaaGreatDoor
