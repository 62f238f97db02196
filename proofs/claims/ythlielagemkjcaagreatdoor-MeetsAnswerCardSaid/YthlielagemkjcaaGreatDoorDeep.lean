/- Values that hold slices: their rows in memory are raw (a raw slice in place of each list),and a relation says which plain value a row stands for. No statement here. -/
import Derived.Test.YthlielagemkjcaaGreatDoorOwn
namespace Go.Proofs.YthlielagemkjcaaGreatDoor
open Go
abbrev RS:={v:Value // v.oneCell'=true}
def RS.enc(r:RS):List Value:=[r.val]
theorem RS.enc_ok:Enc 1 RS.enc:=⟨λ_=>rfl,λr u h=>by simp[RS.enc] at h;subst h;exact r.property⟩
def RP.enc(b:Nat):List Value:=[.pointer (some ⟨b,0,none⟩)]
theorem RP.enc_ok:Enc 1 RP.enc:=⟨λ_=>rfl,λ_ u h=>by simp[RP.enc] at h;subst h;rfl⟩
inductive Mu {α β:Type} (R:α->β->Prop):List α->List β->Prop
 |nil:Mu R [] []
 |cons {x:α} {y:β} {xs:List α} {ys:List β}:R x y->Mu R xs ys->Mu R (x::xs) (y::ys)
section
variable {α β:Type}{R R':α->β->Prop}
theorem Mu.chg(f:∀x y,R x y->R' x y):∀{xs:List α} {ys:List β},Mu R xs ys->Mu R' xs ys
 |_,_,.nil=>.nil
 |_,_,.cons h k=>.cons (f _ _ h) (Mu.chg f k)
theorem Mu.len:∀{xs:List α} {ys:List β},Mu R xs ys->xs.length=ys.length
 |_,_,.nil=>rfl
 |_,_,.cons _ k=>by simp[Mu.len k]
theorem Mu.at:∀{xs:List α} {ys:List β},Mu R xs ys->∀{j:Nat} {x:α},xs[j]? =some x->∃y,ys[j]? =some y/\R x y
 |_,_,.nil,_,_,h=>by simp at h
 |_,_,.cons (y:=y) h _,0,x,e=>by simp at e;subst e;exact⟨y,rfl,h⟩
 |_,_,.cons _ k,j+1,x,e=>by simpa using Mu.at k (by simpa using e)
theorem Mu.app:∀{xs xs':List α} {ys ys':List β},Mu R xs ys->Mu R xs' ys'->Mu R (xs++xs') (ys++ys')
 |_,_,_,_,.nil,k=>k
 |_,_,_,_,.cons h k,l=>.cons h (Mu.app k l)
theorem Mu.one{x:α}{y:β}(h:R x y):Mu R [x] [y]:=.cons h .nil
theorem Mu.tk:∀{xs:List α} {ys:List β},Mu R xs ys->∀n,Mu R (xs.take n) (ys.take n)
 |_,_,.nil,n=>by simp;exact .nil
 |_,_,.cons _ _,0=>by simp;exact .nil
 |_,_,.cons h k,n+1=>by simp;exact .cons h (Mu.tk k n)
theorem Mu.dp:∀{xs:List α} {ys:List β},Mu R xs ys->∀n,Mu R (xs.drop n) (ys.drop n)
 |_,_,.nil,n=>by simp;exact .nil
 |_,_,.cons h k,0=>.cons h k
 |_,_,.cons _ k,n+1=>by simp;exact Mu.dp k n
theorem Mu.cut{xs:List α}{ys:List β}(h:Mu R xs ys)(l k:Int):Mu R (Go.Proofs.YthlielagemkjcaaGreatDoor.cut xs l k) (Go.Proofs.YthlielagemkjcaaGreatDoor.cut ys l k):=(h.tk _).dp _
theorem Mu.st:∀{xs:List α} {ys:List β},Mu R xs ys->∀{x:α} {y:β} (j:Nat),R x y->Mu R (xs.set j x) (ys.set j y)
 |_,_,.nil,_,_,j,_=>by simp;exact .nil
 |_,_,.cons _ k,_,_,0,e=>.cons e k
 |_,_,.cons h k,_,_,j+1,e=>.cons h (Mu.st k j e)
end
def SlcD{α β:Type}(φ:View)(k:Nat)(enc:β->List Value)(rel:View->α->β->Prop)(v:Value)(xs:List α):Prop:=∃rs,Slc φ k v (rs.map enc)/\Mu (rel φ) xs rs
theorem SlcD.mono{α β:Type}{φ ψ:View}{k:Nat}{enc:β->List Value}{rel:View->α->β->Prop}{v:Value}{xs:List α}(hm:∀x r,rel φ x r->rel ψ x r)(l:View.le φ ψ)(h:SlcD φ k enc rel v xs):SlcD ψ k enc rel v xs:=by
 obtain⟨rs,h1,h2⟩:=h;exact⟨rs,h1.mono l,h2.chg hm⟩
def hide(φ:View)(v:Value):View:=λb=>if v.ownBlock=some b then none else φ b
theorem Ana(φ:View)(v:Value):View.le (hide φ v) φ:=by
 intro b o h;unfold hide at h
 split at h
 ·cases h
 ·exact h
section
variable {α β:Type}{enc:β->List Value}{R:α->β->Prop}
theorem ZV{ψ:View}{k:Nat}{v:Value}{xs:List α}{rs:List β}(h:Slc ψ k v (rs.map enc))(hr:Mu R xs rs):Jc v xs.length:=by rw[hr.len];exact Ku h
theorem slc_maxD{ψ:View}{k:Nat}{v:Value}{xs:List α}{rs:List β}(h:Slc ψ k v (rs.map enc))(hr:Mu R xs rs):xs.length<=9223372036854775807:=by rw[hr.len];exact GX h
theorem all2_get[Inhabited α]{xs:List α}{rs:List β}(hr:Mu R xs rs){e:Int}(h:inB e xs.length=true):∃r,rs[e.toNat]? =some r/\R (nth xs e) r:=hr.at (Gd h).1
end
section
variable {w0:World}{X:List Nat}{φ:View}{L:List LEnt}{K:List (Nat×Value)}{n:Nat}{a:Act}{w:World}
theorem own_lenD{α β:Type}{R:α->β->Prop}{T k:Nat}{v:Value}{cs:List Value}{xs:List α}{rs:List β}{b:Nat}(h:w.ownsRow b T k v rs.length cs)(hr:Mu R xs rs):Jc v xs.length:=by rw[hr.len];exact Li h
theorem So{φ ψ χ:View}(h:View.le φ χ)(k:View.le ψ χ):View.le (join φ ψ) χ:=by
 intro b o e;unfold join at e
 cases hφ:φ b with
 |none=>rw[hφ] at e;exact k b o (by simpa using e)
 |some o'=>rw[hφ] at e;simp at e;subst e;exact h b o' hφ
theorem ZW{φ ψ:View}{w:World}(h:Emb φ w)(k:Emb ψ w):Emb (join φ ψ) w:=by
 intro b o e;unfold join at e
 cases hφ:φ b with
 |none=>rw[hφ] at e;exact k b o (by simpa using e)
 |some o'=>rw[hφ] at e;simp at e;subst e;exact h b o' hφ
theorem ZX{φ ψ:View}{w:World}(h:View.le φ ψ)(k:Emb ψ w):Emb φ w:=λb o e=>k b o (h b o e)
theorem ZY{ψ φ φ':View}(h:View.le φ φ'):View.le (join ψ φ) (join ψ φ'):=by
 intro b o e;unfold join at e ⊢
 cases hb:ψ b with
 |none=>rw[hb] at e;simp at e ⊢;exact h b o e
 |some o'=>rw[hb] at e;simpa using e
theorem AS{ψ φ φ' τ:View}(h:View.le φ φ')(k:View.le τ φ'):View.le (join (join ψ φ) τ) (join ψ φ'):=by
 intro b o e;unfold join at e ⊢
 cases hb:ψ b with
 |none=>
  rw[hb] at e;simp only[Option.none_or] at e ⊢
  cases hc:φ b with
  |none=>rw[hc] at e;exact k b o (by simpa using e)
  |some o'=>rw[hc] at e;simp at e;subst e;exact h b o' hc
 |some o'=>rw[hb] at e;simpa using e
theorem UU{ψ φ:View}{w0 w:World}{X:List Nat}(_:View.le ψ (view w0 X))(k:View.le φ (newer w0 w)):View.le (join ψ φ) (join ψ (newer w0 w)):=ZY k
theorem Sx.all_right{ψ:View}(S:Sx w0 X φ L K n a w)(hψ:View.le ψ (view w0 X)):View.le φ (join ψ φ):=by
 refine le_join_right λb o h=>?_
 cases hb:φ b with
 |none=>rfl
 |some o'=>
  have h1:=S.fresh b o' hb;have h2:=hψ b o h;unfold view at h2
  split at h2
  ·cases h2
  ·have:=heap_lt h2;omega
theorem Sx.le_hide{i T k m:Nat}{v:Value}{cs:List Value}(S:Sx w0 X φ L K n a w)(hi:L[i]? =some (.own v T k m cs)):View.le φ (hide (newer w0 w) v):=by
 intro b o h;unfold hide
 split
 ·rename_i hb;have:=(S.sep b (Sx.fp_mem (e:=.own v T k m cs) hi hb)).1;rw[this] at h
  cases h
 ·exact S.le_newer b o h
theorem Ahm{ψ:View}(h:Emb φ w)(k:Emb ψ w):View.le ψ (join φ ψ):=by
 intro b o e;unfold join
 cases hb:φ b with
 |none=>simpa using e
 |some o'=>
  have h1:=h b o' hb;have h2:=k b o e;rw[h1] at h2;simpa using h2
theorem Sx.grow{ψ:View}(S:Sx w0 X φ L K n a w)(he:Emb ψ w)(hf:∀b o,ψ b=some o->w0.heap.size<=b)(hs:∀b∈fps L,ψ b=none):Sx w0 X (join φ ψ) L K n a w:=by
 refine {S with emb:=?_,fresh:=?_,sep:=?_}
 ·intro b o h;unfold join at h
  cases hφ:φ b with
  |some o'=>rw[hφ] at h;cases h;exact S.emb b _ hφ
  |none=>rw[hφ] at h;exact he b o (by simpa using h)
 ·intro b o h;unfold join at h
  cases hφ:φ b with
  |some o'=>exact S.fresh b _ hφ
  |none=>rw[hφ] at h;exact hf b o (by simpa using h)
 ·intro b hb;have h1:=S.sep b hb;refine⟨?_,h1.2⟩;unfold join;rw[h1.1,hs b hb];rfl
theorem Sx.takeV{wo:World}{T k m:Nat}{v:Value}{cs:List Value}(S:Sx w0 X φ L K n a w)(hn:New wo φ L)(hs:w0.heap.size<=wo.heap.size)(ho:Kr (newer wo w) T k v m cs):
 ∃φ',View.le φ φ'/\View.le (hide (newer wo w) v) φ'/\Sx w0 X φ' (.own v T k m cs::L) K n a w:=by
 have S1:=S.take hn hs ho;have hN:∀b o,hide (newer wo w) v b=some o->wo.heap.size<=b:=by
  intro b o h;have:=Ana _ _ b o h;unfold newer at this
  split at this
  ·rename_i h';exact h'
  ·cases this
 have he:Emb (hide (newer wo w) v) w:=λb o h=>emb_newer wo w b o (Ana _ _ b o h);have S2:=S1.grow he (λb o h=>Nat.le_trans hs (hN b o h)) (λb hb=>by
  obtain⟨x,hx,hc⟩:=EN hb;rcases bB.1 hx with rfl|hx
  ·unfold hide;exact aQ hc
  ·cases h:hide (newer wo w) v b with
   |none=>rfl
   |some o=>
    have h1:=(hn b (hN b o h)).2;obtain⟨i,hi⟩:=List.getElem?_of_mem hx;exact absurd (Sx.fp_mem hi hc) h1)
 exact⟨_,le_join_left _ _,Ahm S1.emb he,S2⟩
def JS{α β:Type}(φ:View)(T:Nat)(enc:β->List Value)(rel:View->α->β->Prop)(v:Value):Option α->Prop
 |none=>v= .pointer none
 |some x=>∃b q,v= .pointer (some ⟨b,0,none⟩)/\rel φ x q/\φ b=some (.cells (enc q).toArray T (0,0))
theorem JS.mono{α β:Type}{φ ψ:View}{T:Nat}{enc:β->List Value}{rel:View->α->β->Prop}{v:Value}{x:Option α}(hm:∀x r,rel φ x r->rel ψ x r)(l:View.le φ ψ)(h:JS φ T enc rel v x):JS ψ T enc rel v x:=by
 cases x with
 |none=>exact h
 |some x=>
  obtain⟨b,q,h1,h2,h3⟩:=h;exact⟨b,q,h1,hm _ _ h2,l _ _ h3⟩
theorem JS.mk{α β:Type}{φ:View}{T b:Nat}{enc:β->List Value}{rel:View->α->β->Prop}{x:α}(q:β)(h:rel φ x q)(k:φ b=some (.cells (enc q).toArray T (0,0))):JS φ T enc rel (.pointer (some ⟨b,0,none⟩)) (some x):=⟨b,q,rfl,h,k⟩
theorem Sx.freezeB{i b T:Nat}{cs:List Value}(S:Sx w0 X φ L K n a w)(hi:L[i]? =some (.blk b cs T))(hX:b∉X):
 ∃φ',View.le φ φ'/\φ' b=some (.cells cs.toArray T (0,0))/\Sx w0 X φ' (L.eraseIdx i) K n a w:=by
 have hb:=S.blk_at hi;obtain⟨s1,s2,s3⟩:=S.sep b (Sx.fp_mem hi rfl);obtain⟨l1,l2,rfl,rfl⟩:=QJ hi;have he:(l1++LEnt.blk b cs T::l2).eraseIdx l1.length=l1++l2:=by simp[List.eraseIdx_append_of_length_le]
 have hsub:List.Sublist (l1++l2) (l1++LEnt.blk b cs T::l2):=by simp
 have hnd:=S.nodup;have hfe:fps (l1++LEnt.blk b cs T::l2)=fps l1++(b::fps l2):=by simp[fps,List.filterMap_append,LEnt.fp]
 rw[hfe] at hnd;have hg:b∉fps (l1++l2):=by
  simp only[fps,List.filterMap_append,bC];simp only[List.nodup_append,bT] at hnd;rintro(h|h)
  ·exact hnd.2.2 b h b aN rfl
  ·exact hnd.2.1.1 h
 refine⟨join φ (λc=>if c=b then w.heap[c]? else none),le_join_left _ _,by simp[join,s1,hb],?_⟩;rw[he];refine(S.drop hsub).grow (λc o e=>?_) (λc o e=>?_) (λc hc=>?_)
 ·split at e
  ·exact e
  ·cases e
 ·split at e
  ·rename_i h;subst h;rcases s2 with h|h
   ·exact h
   ·exact absurd h hX
  ·cases e
 ·have:c≠b:=λe=>hg (e ▸ hc);simp[this]
end
end Go.Proofs.YthlielagemkjcaaGreatDoor
