/- What the program does at a few given inputs. No program stands here but its twins. -/
import Derived.Test.YtgfjjiheamdgbaaGreatDoorPSort2
namespace Go.Proofs.YtgfjjiheamdgbaaGreatDoor
open Go
theorem midP {l h : Int} (h0 : 0 ≤ l) (h1 : l ≤ h) (h2 : h ≤ 100000) : W (Di .u64 (IntKind.wrap .u64 (W (l + h))) 1) = (l + h) / 2:=by
 have e1 : W (l + h) = l + h:=Hv (by omega) (by omega)
 have e2 : IntKind.wrap .u64 (l + h) = l + h:=by
  simp only [IntKind.wrap,IntKind.bits,IntKind.signed]
  simp
  omega
 have e3 : Di .u64 (l + h) 1 = (l + h) / 2:=by
  unfold Di
  have : (min (1 : Int).toNat IntKind.u64.bits) = 1:=by decide
  rw [this]
  exact Int.fdiv_eq_ediv_of_nonneg _ (by decide)
 rw [e1,e2,e3,Hv (by omega) (by omega)]
theorem We {α : Type} (p : List α) (x y : α) (q : List α) {i : Nat} (h : i = p.length) : (p ++ x :: q).set i y = p ++ y :: q:=by
 subst h
 rw [List.set_append_right _ _ (Nat.le_refl _)]
 simp
theorem Wf {α : Type} [Inhabited α] (A R Z : List α) (u v : α) : nth (A ++ u :: (R ++ v :: Z)) ((A.length + 1 + R.length : Nat) : Int) = v ∧ nth (A ++ u :: (R ++ v :: Z)) (A.length : Int) = u:=by
 refine ⟨?_,Od _ _ _ rfl⟩
 have e : A ++ u :: (R ++ v :: Z) = (A ++ u :: R) ++ v :: Z:=by simp
 rw [e]
 exact Od _ _ _ (by simp; omega)
theorem CE {α : Type} (A R Z : List α) (u v : α) : ((A ++ u :: (R ++ v :: Z)).set A.length v).set (A.length + 1 + R.length) u = A ++ v :: (R ++ u :: Z):=by
 rw [We A u v _ rfl]
 have e : A ++ v :: (R ++ v :: Z) = (A ++ v :: R) ++ v :: Z:=by simp
 rw [e,We _ v u Z (by simp; omega)]
 simp
theorem AG {α : Type} (A R Z : List α) (u v : α) : ((A ++ u :: (R ++ v :: Z)).set (A.length + 1 + R.length) u).set A.length v = A ++ v :: (R ++ u :: Z):=by
 have e : A ++ u :: (R ++ v :: Z) = (A ++ u :: R) ++ v :: Z:=by simp
 rw [e,We _ v u Z (by simp; omega)]
 have e2 : (A ++ u :: R) ++ u :: Z = A ++ u :: (R ++ u :: Z):=by simp
 rw [e2,We A u v _ rfl]
theorem swr_l (P M Q : List An) (n b : Nat) (hb : b = P.length + n + M.length) (j : List An → Option (List An)) : ∀ (U2 V2 U1 V1 : List An) (m : Nat),U1.length = V1.length → U2.length = V2.length → U1.length + U2.length = n → U2.length < m → P.length + 2 * n + M.length + Q.length < 100000 →
  Cx (n : Int) (b : Int) (P.length : Int) j m (P ++ (V1 ++ (U2 ++ (M ++ (U1 ++ (V2 ++ Q)))))) (U1.length : Int) = j (P ++ ((V1 ++ V2) ++ (M ++ ((U1 ++ U2) ++ Q))))
 | [],V2,U1,V1,m,h1,h2,h3,h4,h5=>by
  obtain ⟨m,rfl⟩ : ∃ q,m = q + 1:=⟨m - 1,by omega⟩
  have : V2 = []:=List.length_eq_zero_iff.1 (by simpa using h2.symm)
  subst this
  simp only [List.length_nil] at h3
  rw [Cx,if_neg (by simp only [decide_eq_true_eq]; omega)]
  simp
 | u :: U2,[],U1,V1,m,h1,h2,h3,h4,h5=>by simp at h2
 | u :: U2,v :: V2,U1,V1,m,h1,h2,h3,h4,h5=>by
  obtain ⟨m,rfl⟩ : ∃ q,m = q + 1:=⟨m - 1,by omega⟩
  simp only [List.length_cons] at h2 h3 h4
  have e : P ++ (V1 ++ (u :: U2 ++ (M ++ (U1 ++ (v :: V2 ++ Q))))) = (P ++ V1) ++ u :: ((U2 ++ (M ++ U1)) ++ v :: (V2 ++ Q)):=by simp
  have hA : (P ++ V1).length = P.length + U1.length:=by rw [List.length_append,h1]
  have hk : (P ++ V1).length + 1 + (U2 ++ (M ++ U1)).length = b + U1.length:=by simp only [List.length_append]; omega
  have w1 : W ((b : Int) + (U1.length : Int)) = (((P ++ V1).length + 1 + (U2 ++ (M ++ U1)).length : Nat) : Int):=by rw [Hv (by omega) (by omega),hk]; omega
  have w2 : W ((P.length : Int) + (U1.length : Int)) = (((P ++ V1).length : Nat) : Int):=by rw [Hv (by omega) (by omega),hA]; omega
  obtain ⟨n1,n2⟩:=Wf (P ++ V1) (U2 ++ (M ++ U1)) (V2 ++ Q) u v
  have hl : ((P ++ V1) ++ u :: ((U2 ++ (M ++ U1)) ++ v :: (V2 ++ Q))).length = P.length + 2 * n + M.length + Q.length:=by simp only [List.length_append,List.length_cons]; omega
  have c1 : inB (((P ++ V1).length + 1 + (U2 ++ (M ++ U1)).length : Nat) : Int) ((P ++ V1) ++ u :: ((U2 ++ (M ++ U1)) ++ v :: (V2 ++ Q))).length = true:=Fh.2 (by rw [hl,hk]; omega)
  have c2 : inB (((P ++ V1).length : Nat) : Int) ((P ++ V1) ++ u :: ((U2 ++ (M ++ U1)) ++ v :: (V2 ++ Q))).length = true:=Fh.2 (by rw [hl,hA]; omega)
  rw [Cx,if_pos (by simp only [decide_eq_true_eq]; omega),e,w1,w2,Ho c1,Ho c2,Ho c2,Ho (by rw [List.length_set]; exact c1),n1,n2,Int.toNat_natCast,Int.toNat_natCast,CE,Hv (by omega) (by omega)]
  have ih:=swr_l P M Q n b hb j U2 V2 (U1 ++ [u]) (V1 ++ [v]) m (by simp [h1]) (by omega) (by simp; omega) (by omega) h5
  rw [List.length_append,List.length_singleton] at ih
  have e2 : P ++ ((V1 ++ [v]) ++ (U2 ++ (M ++ ((U1 ++ [u]) ++ (V2 ++ Q))))) = (P ++ V1) ++ v :: ((U2 ++ (M ++ U1)) ++ u :: (V2 ++ Q)):=by simp
  rw [e2] at ih
  have e3 : ((U1.length + 1 : Nat) : Int) = (U1.length : Int) + 1:=by omega
  rw [e3] at ih
  rw [ih]
  simp
theorem BH (P U M V Q : List An) {a b n : Int} (h : U.length = V.length) (ha : a = (P.length : Int)) (hb : b = ((P.length + U.length + M.length : Nat) : Int)) (hn : n = (U.length : Int)) (hs : P.length + 2 * U.length + M.length + Q.length < 100000) :
  Dv (P ++ (U ++ (M ++ (V ++ Q)))) a b n = some (P ++ (V ++ (M ++ (U ++ Q)))):=by
 subst ha hb hn
 unfold Dv
 rw [Gs]
 exact swr_l P M Q U.length _ rfl (fun x1=>some x1) U V [] [] _ rfl h (by simp) (by omega) hs
theorem EM (mid : Nat) : ∀ (s : Nat) (P U V Q : List An) (m : Nat),U.length + V.length ≤ s → U ≠ [] → V ≠ [] → s < m → P.length + U.length + V.length + Q.length < 100000 → mid = P.length + U.length →
  Dg (mid : Int) (fun x1 x2=>Option.bind (Dv x1 (W ((mid : Int) - x2)) (mid : Int) x2) (fun r3=>some r3)) m (P ++ (U ++ (V ++ Q))) (U.length : Int) (V.length : Int) = some (P ++ (V ++ (U ++ Q)))
 | s,P,U,V,Q,m,h1,h2,h3,h4,h5,h6=>by
  obtain ⟨m,rfl⟩ : ∃ q,m = q + 1:=⟨m - 1,by omega⟩
  have hu:=List.length_pos_iff.2 h2
  have hv:=List.length_pos_iff.2 h3
  rw [Dg]
  by_cases he : U.length = V.length
  ·have hw:=BH P U [] V Q (a:=W ((mid : Int) - (U.length : Int))) (b:=(mid : Int)) he (by rw [Hv (by omega) (by omega)]; omega) (by simp; omega) rfl (by simp; omega)
   rw [List.nil_append,List.nil_append] at hw
   rw [if_neg (by simp [he]),hw]
   rfl
  ·rw [if_pos (by simp; omega)]
   simp only [Gs]
   by_cases hc : V.length < U.length
   ·rw [if_pos (decide_eq_true (by omega))]
    have l1 : (U.take V.length).length = V.length:=by rw [List.length_take]; omega
    have l2 : (U.drop V.length).length = U.length - V.length:=by rw [List.length_drop]
    have hU : U.take V.length ++ U.drop V.length = U:=List.take_append_drop ..
    generalize U.take V.length = U1 at *
    generalize U.drop V.length = U2 at *
    subst hU
    rw [List.append_assoc,BH P U1 U2 V Q l1 (by rw [Hv (by omega) (by omega),h6]; simp) (by rw [h6]; simp; omega) (by omega) (by simp at h5; omega),Option.bind_some,Hv (by omega) (by omega)]
    simp only [List.length_append] at *
    have ih:=EM mid (s - 1) (P ++ V) U2 U1 Q m (by omega) (List.ne_nil_of_length_pos (by omega)) (List.ne_nil_of_length_pos (by omega)) (by omega) (by simp; omega) (by simp; omega)
    rw [List.append_assoc] at ih
    rw [show (((U1.length + U2.length : Nat) : Int) - (V.length : Int)) = (U2.length : Int) by omega,show (V.length : Int) = (U1.length : Int) by omega,ih]
    simp
   ·rw [if_neg (by simp only [decide_eq_true_eq]; omega)]
    have l1 : (V.drop (V.length - U.length)).length = U.length:=by rw [List.length_drop]; omega
    have l2 : (V.take (V.length - U.length)).length = V.length - U.length:=by rw [List.length_take]; omega
    have hV : V.take (V.length - U.length) ++ V.drop (V.length - U.length) = V:=List.take_append_drop ..
    generalize V.take (V.length - U.length) = V1 at *
    generalize V.drop (V.length - U.length) = V2 at *
    subst hV
    rw [List.append_assoc V1,BH P U V1 V2 Q l1.symm (by rw [Hv (by omega) (by omega)]; omega) (by rw [Hv (n:=(mid : Int) + _) (by omega) (by omega),Hv (by omega) (by omega),h6]; simp only [List.length_append] at *; omega) rfl (by simp only [List.length_append] at *; omega),Option.bind_some,Hv (by omega) (by omega)]
    simp only [List.length_append] at *
    have ih:=EM mid (s - 1) P V2 V1 (U ++ Q) m (by omega) (List.ne_nil_of_length_pos (by omega)) (List.ne_nil_of_length_pos (by omega)) (by omega) (by simp; omega) (by omega)
    rw [show (((V1.length + V2.length : Nat) : Int) - (U.length : Int)) = (V1.length : Int) by omega,show (U.length : Int) = (V2.length : Int) by omega,ih]
    simp
termination_by s=>s
decreasing_by all_goals (simp only [List.length_append] at *; omega)
theorem rot_is (P U V Q : List An) {a m b : Int} (hU : U ≠ []) (hV : V ≠ []) (ha : a = (P.length : Int)) (hm : m = ((P.length + U.length : Nat) : Int)) (hb : b = ((P.length + U.length + V.length : Nat) : Int)) (hs : P.length + U.length + V.length + Q.length < 100000) :
  Ek (P ++ (U ++ (V ++ Q))) a m b = some (P ++ (V ++ (U ++ Q))):=by
 subst ha hm hb
 unfold Ek
 rw [Gs,Hv (n:=((P.length + U.length : Nat) : Int) - _) (by omega) (by omega),Hv (n:=((P.length + U.length + V.length : Nat) : Int) - _) (by omega) (by omega),show ((P.length + U.length : Nat) : Int) - (P.length : Int) = (U.length : Int) by omega,show ((P.length + U.length + V.length : Nat) : Int) - ((P.length + U.length : Nat) : Int) = (V.length : Int) by omega]
 exact EM (P.length + U.length) _ P U V Q 4611686018427387904 (Nat.le_refl _) hU hV (by omega) hs rfl
theorem Xg {R : Type} (p : Nat → Bool) (j : Int → Option R) (F : Nat → Int → Int → Option R) (lo0 hi0 : Nat) (hF : ∀ (m lo hi : Nat),lo0 ≤ lo → lo < hi → hi ≤ hi0 → F (m + 1) (lo : Int) (hi : Int) = if p ((lo + hi) / 2) then F m (((lo + hi) / 2 + 1 : Nat) : Int) (hi : Int) else F m (lo : Int) (((lo + hi) / 2 : Nat) : Int))
  (hE : ∀ (m lo : Nat),F (m + 1) (lo : Int) (lo : Int) = j (lo : Int)) (mono : ∀ s t,lo0 ≤ s → s ≤ t → t < hi0 → p t = true → p s = true) : ∀ (m lo hi : Nat),hi - lo < m → lo0 ≤ lo → lo ≤ hi → hi ≤ hi0 → (∀ t,lo0 ≤ t → t < lo → p t = true) → (∀ t,hi ≤ t → t < hi0 → p t = false) →
  ∃ k : Nat,F m (lo : Int) (hi : Int) = j (k : Int) ∧ lo0 ≤ k ∧ k ≤ hi0 ∧ (∀ t,lo0 ≤ t → t < k → p t = true) ∧ ∀ t,k ≤ t → t < hi0 → p t = false
 | 0,lo,hi,h,_,_,_,_,_=>by omega
 | m + 1,lo,hi,h,h1,h2,h3,h4,h5=>by
  by_cases hc : lo < hi
  ·rw [hF m lo hi h1 hc h3]
   cases hp : p ((lo + hi) / 2) with
   | true =>
    rw [if_pos rfl]
    exact Xg p j F lo0 hi0 hF hE mono m _ hi (by omega) (by omega) (by omega) h3 (fun t t1 t2=>mono t _ t1 (by omega) (by omega) hp) h5
   | false =>
    rw [if_neg (by simp)]
    refine Xg p j F lo0 hi0 hF hE mono m lo _ (by omega) h1 (by omega) (by omega) h4 fun t t1 t2=>?_
    cases ht : p t with
    | false=>rfl
    | true=>rw [mono _ t (by omega) t1 t2 ht] at hp; cases hp
  ·have : hi = lo:=by omega
   subst this
   exact ⟨hi,hE m hi,h1,h3,h4,h5⟩
theorem mv1 (x1 : Int) (j : List An → Option (List An)) (x : An) : ∀ (B P Z : List An) (m : Nat),B.length < m → P.length + B.length + Z.length < 100000 → x1 = ((P.length + 1 + B.length : Nat) : Int) →
  Cu x1 j m (P ++ x :: (B ++ Z)) (P.length : Int) = j (P ++ (B ++ x :: Z))
 | [],P,Z,m,h1,h2,h3=>by
  obtain ⟨m,rfl⟩ : ∃ q,m = q + 1:=⟨m - 1,by omega⟩
  rw [Cu,h3,Hv (by omega) (by omega),if_neg (by simp)]
  rfl
 | y :: B,P,Z,m,h1,h2,h3=>by
  obtain ⟨m,rfl⟩ : ∃ q,m = q + 1:=⟨m - 1,by omega⟩
  simp only [List.length_cons] at h1 h2 h3
  have w1 : W ((P.length : Int) + 1) = ((P.length + 1 + ([] : List An).length : Nat) : Int):=by rw [Hv (by omega) (by omega)]; simp
  have e : P ++ x :: (y :: B ++ Z) = P ++ x :: ([] ++ y :: (B ++ Z)):=rfl
  obtain ⟨n1,n2⟩:=Wf P [] (B ++ Z) x y
  have hl : (P ++ x :: ([] ++ y :: (B ++ Z))).length = P.length + 2 + B.length + Z.length:=by simp; omega
  have c1 : inB ((P.length + 1 + ([] : List An).length : Nat) : Int) (P ++ x :: ([] ++ y :: (B ++ Z))).length = true:=Fh.2 (by rw [hl]; simp; omega)
  have c2 : inB (P.length : Int) (P ++ x :: ([] ++ y :: (B ++ Z))).length = true:=Fh.2 (by rw [hl]; omega)
  rw [Cu,if_pos (by rw [h3,Hv (by omega) (by omega)]; simp only [decide_eq_true_eq]; omega),w1,e,Ho c1,Ho c2,Ho c2,Ho (by rw [List.length_set]; exact c1),n1,n2,Int.toNat_natCast,Int.toNat_natCast,CE]
  have ih:=mv1 x1 j x B (P ++ [y]) Z m (by omega) (by simp; omega) (by rw [h3]; simp; omega)
  rw [List.length_append,List.length_singleton] at ih
  have e2 : P ++ y :: ([] ++ x :: (B ++ Z)) = P ++ [y] ++ x :: (B ++ Z):=by simp
  rw [e2,show ((P.length + 1 + ([] : List An).length : Nat) : Int) = ((P.length + 1 : Nat) : Int) by simp,ih]
  simp
theorem mv2 (x9 : Int) (j : List An → Option (List An)) (x : An) : ∀ (r P Z : List An) (m : Nat),r.length < m → P.length + r.length + Z.length < 100000 → x9 = (P.length : Int) →
  Cv x9 j m (P ++ (r.reverse ++ x :: Z)) ((P.length + r.length : Nat) : Int) = j (P ++ x :: (r.reverse ++ Z))
 | [],P,Z,m,h1,h2,h3=>by
  obtain ⟨m,rfl⟩ : ∃ q,m = q + 1:=⟨m - 1,by omega⟩
  rw [Cv,h3,if_neg (by simp)]
  rfl
 | y :: r,P,Z,m,h1,h2,h3=>by
  obtain ⟨m,rfl⟩ : ∃ q,m = q + 1:=⟨m - 1,by omega⟩
  simp only [List.length_cons] at h1 h2 ⊢
  have hA : (P ++ r.reverse).length = P.length + r.length:=by simp
  have w0 : ((P.length + (r.length + 1) : Nat) : Int) = (((P ++ r.reverse).length + 1 + ([] : List An).length : Nat) : Int):=by rw [hA]; simp; omega
  have w1 : W (((P.length + (r.length + 1) : Nat) : Int) - 1) = ((P ++ r.reverse).length : Int):=by rw [Hv (by omega) (by omega),hA]; omega
  have e : P ++ ((y :: r).reverse ++ x :: Z) = (P ++ r.reverse) ++ y :: ([] ++ x :: Z):=by simp
  obtain ⟨n1,n2⟩:=Wf (P ++ r.reverse) [] Z y x
  have hl : ((P ++ r.reverse) ++ y :: ([] ++ x :: Z)).length = P.length + r.length + 2 + Z.length:=by simp; omega
  have c1 : inB (((P ++ r.reverse).length + 1 + ([] : List An).length : Nat) : Int) ((P ++ r.reverse) ++ y :: ([] ++ x :: Z)).length = true:=Fh.2 (by rw [hl,hA]; simp; omega)
  have c2 : inB ((P ++ r.reverse).length : Int) ((P ++ r.reverse) ++ y :: ([] ++ x :: Z)).length = true:=Fh.2 (by rw [hl,hA]; omega)
  rw [Cv,if_pos (by rw [h3]; simp only [decide_eq_true_eq]; omega),w1,e,w0,Ho c2,Ho c1,Ho c1,Ho (by rw [List.length_set]; exact c2),n1,n2,Int.toNat_natCast,Int.toNat_natCast,AG]
  have ih:=mv2 x9 j x r P (y :: Z) m (by omega) (by simp; omega) h3
  have e2 : (P ++ r.reverse) ++ x :: ([] ++ y :: Z) = P ++ (r.reverse ++ x :: (y :: Z)):=by simp
  rw [e2,hA,ih]
  simp
def leO (x y : An) : Prop:=¬ Df y x < 0
structure Vg (D : List An) : Prop where
 tr : ∀ x ∈ D,∀ y ∈ D,∀ z ∈ D,leO x y → leO y z → leO x z
 tot : ∀ x ∈ D,∀ y ∈ D,leO x y ∨ leO y x
theorem Vg.ref {D : List An} (h : Vg D) {x : An} (hx : x ∈ D) : leO x x:=(h.tot x hx x hx).elim id id
theorem Vg.of {D : List An} (h : Vg D) {x y : An} (hx : x ∈ D) (hy : y ∈ D) (hn : Df x y < 0) : leO x y:=(h.tot x hx y hy).elim id fun h'=>absurd hn h'
theorem Sm {D A : List An} (hO : Vg D) (hA : ∀ x ∈ A,x ∈ D) (h : A.Pairwise leO) {i k : Nat} (hi : i < A.length) (hk : k < A.length) (hik : i ≤ k) : leO A[i] A[k]:=by
 rcases Nat.lt_or_ge i k with h1 | h1
 ·exact List.pairwise_iff_getElem.1 h i k hi hk h1
 ·have : i = k:=by omega
  subst this
  exact hO.ref (hA _ (List.getElem_mem hi))
theorem Uz {α : Type} [Inhabited α] (P A Z : List α) {i : Nat} (h : i < A.length) {e : Int} (he : e = ((P.length + i : Nat) : Int)) : nth (P ++ (A ++ Z)) e = A[i]:=by
 subst he
 have : A = A.take i ++ A[i] :: A.drop (i + 1):=by rw [← List.drop_eq_getElem_cons h,List.take_append_drop]
 have e : P ++ (A ++ Z) = (P ++ A.take i) ++ A[i] :: (A.drop (i + 1) ++ Z):=by
  have e0 : A ++ Z = (A.take i ++ A[i] :: A.drop (i + 1)) ++ Z:=congrArg (fun q=>q ++ Z) this
  rw [e0,List.append_assoc,List.append_assoc,List.cons_append]
 rw [e]
 exact Od _ _ _ (by simp; omega)
theorem Uh {α : Type} {A : List α} {n : Nat} {x : α} (h : x ∈ A.take n) : ∃ (i : Nat) (hi : i < A.length),i < n ∧ A[i] = x:=by
 obtain ⟨i,hi,e⟩:=List.mem_iff_getElem.1 h
 rw [List.length_take] at hi
 exact ⟨i,by omega,by omega,by rw [← e,List.getElem_take]⟩
theorem Ui {α : Type} {A : List α} {n : Nat} {x : α} (h : x ∈ A.drop n) : ∃ (i : Nat) (hi : i < A.length),n ≤ i ∧ A[i] = x:=by
 obtain ⟨i,hi,e⟩:=List.mem_iff_getElem.1 h
 rw [List.length_drop] at hi
 exact ⟨n + i,by omega,by omega,by rw [← e,List.getElem_drop]⟩
section
variable {D : List An} (hO : Vg D)
include hO
theorem sym_1 (self : List An → Int → Int → Int → Option (List An)) (P B Q : List An) (x : An) (hx : x ∈ D) (hB : ∀ y ∈ B,y ∈ D) (hs : B.Pairwise leO) (hl : P.length + 1 + B.length + Q.length < 100000) :
  ∃ C,Ds self (P ++ (x :: (B ++ Q))) (P.length : Int) ((P.length + 1 : Nat) : Int) ((P.length + 1 + B.length : Nat) : Int) = some (P ++ (C ++ Q)) ∧ C.Perm (x :: B) ∧ C.Pairwise leO:=by
 unfold Ds
 rw [if_pos (by rw [Hv (by omega) (by omega)]; simp only [decide_eq_true_eq]; omega)]
 simp only [Gs]
 have hd : (P ++ (x :: (B ++ Q))).length = P.length + 1 + B.length + Q.length:=by simp; omega
 have nx : nth (P ++ (x :: (B ++ Q))) (P.length : Int) = x:=Od _ _ _ rfl
 have nb : ∀ t (h1 : P.length + 1 ≤ t) (h2 : t < P.length + 1 + B.length),nth (P ++ (x :: (B ++ Q))) (t : Int) = B[t - (P.length + 1)]:=fun t h1 h2=>by
  have:=Uz (P ++ [x]) B Q (i:=t - (P.length + 1)) (by omega) (e:=(t : Int)) (by simp; omega)
  rw [List.append_assoc] at this
  exact this
 obtain ⟨k,k1,k2,k3,k4,k5⟩:=Xg (fun h=>decide (Df (nth (P ++ (x :: (B ++ Q))) (h : Int)) x < 0)) (fun x1=>Cu x1 (fun x7=>some x7) (((W (x1 - 1)) - (P.length : Int)).toNat + 2) (P ++ (x :: (B ++ Q))) (P.length : Int))
  (Cz (P ++ (x :: (B ++ Q))) (P.length : Int) (fun x1=>Cu x1 (fun x7=>some x7) (((W (x1 - 1)) - (P.length : Int)).toNat + 2) (P ++ (x :: (B ++ Q))) (P.length : Int))) (P.length + 1) (P.length + 1 + B.length)
  (fun m lo hi h1 h2 h3=>by
   have hm : W (Di .u64 (IntKind.wrap .u64 (W ((lo : Int) + (hi : Int)))) 1) = (((lo + hi) / 2 : Nat) : Int):=by rw [midP (by omega) (by omega) (by omega)]; omega
   rw [Cz,if_pos (by simp only [decide_eq_true_eq]; omega)]
   simp only [Gs]
   rw [hm,Ho (Fh.2 (by rw [hd]; omega)),Ho (Fh.2 (by rw [hd]; omega)),nx,Hv (n:=(((lo + hi) / 2 : Nat) : Int) + 1) (by omega) (by omega)]
   rfl)
  (fun m lo=>by rw [Cz,if_neg (by simp)])
  (fun s t h1 h2 h3 ht=>by
   rw [nb t (by omega) h3] at ht
   rw [nb s h1 (by omega)]
   have h4:=of_decide_eq_true ht
   refine decide_eq_true (Decidable.byContradiction fun h5=>?_)
   exact hO.tr x hx _ (hB _ (List.getElem_mem _)) _ (hB _ (List.getElem_mem _)) h5 (Sm hO hB hs (i:=s - (P.length + 1)) (k:=t - (P.length + 1)) (by omega) (by omega) (by omega)) h4)
  ((((P.length + 1 + B.length : Nat) : Int) - ((P.length + 1 : Nat) : Int)).toNat + 2) (P.length + 1) (P.length + 1 + B.length) (by omega) (Nat.le_refl _) (by omega) (Nat.le_refl _) (fun t h1 h2=>by omega) (fun t h1 h2=>by omega)
 rw [k1]
 have l1 : (B.take (k - (P.length + 1))).length = k - (P.length + 1):=by rw [List.length_take]; omega
 have e : P ++ (x :: (B ++ Q)) = P ++ x :: (B.take (k - (P.length + 1)) ++ (B.drop (k - (P.length + 1)) ++ Q)):=by rw [← List.append_assoc (B.take _),List.take_append_drop]
 rw [e,mv1 (k : Int) _ x (B.take (k - (P.length + 1))) P _ _ (by rw [l1,Hv (by omega) (by omega)]; omega) (by simp only [List.length_append,List.length_drop,l1]; omega) (by rw [l1]; omega)]
 refine ⟨B.take (k - (P.length + 1)) ++ x :: B.drop (k - (P.length + 1)),by simp,?_,?_⟩
 ·have:=List.perm_middle (a:=x) (l₁:=B.take (k - (P.length + 1))) (l₂:=B.drop (k - (P.length + 1)))
  rw [List.take_append_drop] at this
  exact this
 ·have hs2:=hs
  rw [← List.take_append_drop (k - (P.length + 1)) B,List.pairwise_append] at hs2
  refine List.pairwise_append.2 ⟨hs2.1,List.pairwise_cons.2 ⟨fun y hy=>?_,hs2.2.1⟩,fun y hy z hz=>?_⟩
  ·obtain ⟨i,hi,h1,rfl⟩:=Ui hy
   have:=k5 (P.length + 1 + i) (by omega) (by omega)
   rw [nb _ (by omega) (by omega)] at this
   have h2:=of_decide_eq_false this
   simp only [show P.length + 1 + i - (P.length + 1) = i by omega] at h2
   exact h2
  ·rcases List.mem_cons.1 hz with rfl | hz
   ·obtain ⟨i,hi,h1,rfl⟩:=Uh hy
    have:=k4 (P.length + 1 + i) (by omega) (by omega)
    rw [nb _ (by omega) (by omega)] at this
    have h2:=of_decide_eq_true this
    simp only [show P.length + 1 + i - (P.length + 1) = i by omega] at h2
    exact hO.of (hB _ (List.getElem_mem _)) hx h2
   ·exact hs2.2.2 y hy z hz
theorem sym_2 (self : List An → Int → Int → Int → Option (List An)) (P A Q : List An) (x : An) (hx : x ∈ D) (hA : ∀ y ∈ A,y ∈ D) (hs : A.Pairwise leO) (hl : P.length + A.length + 1 + Q.length < 100000) (hne : A.length ≠ 1) :
  ∃ C,Ds self (P ++ (A ++ (x :: Q))) (P.length : Int) ((P.length + A.length : Nat) : Int) ((P.length + A.length + 1 : Nat) : Int) = some (P ++ (C ++ Q)) ∧ C.Perm (A ++ [x]) ∧ C.Pairwise leO:=by
 unfold Ds
 rw [if_neg (by rw [Hv (by omega) (by omega)]; simp only [decide_eq_true_eq]; omega),if_pos (by rw [Hv (by omega) (by omega)]; simp only [decide_eq_true_eq]; omega)]
 simp only [Gs]
 have hd : (P ++ (A ++ (x :: Q))).length = P.length + A.length + 1 + Q.length:=by simp; omega
 have nx : nth (P ++ (A ++ (x :: Q))) ((P.length + A.length : Nat) : Int) = x:=by
  rw [← List.append_assoc]; exact Od _ _ _ (by simp)
 have nb : ∀ t (h1 : P.length ≤ t) (h2 : t < P.length + A.length),nth (P ++ (A ++ (x :: Q))) (t : Int) = A[t - P.length]:=fun t h1 h2=>Uz P A (x :: Q) (i:=t - P.length) (by omega) (by omega)
 obtain ⟨k,k1,k2,k3,k4,k5⟩:=Xg (fun h=>!decide (Df x (nth (P ++ (A ++ (x :: Q))) (h : Int)) < 0)) (fun x9=>Cv x9 (fun x15=>some x15) ((((P.length + A.length : Nat) : Int) - x9).toNat + 2) (P ++ (A ++ (x :: Q))) ((P.length + A.length : Nat) : Int))
  (Da ((P.length + A.length : Nat) : Int) (P ++ (A ++ (x :: Q))) (fun x9=>Cv x9 (fun x15=>some x15) ((((P.length + A.length : Nat) : Int) - x9).toNat + 2) (P ++ (A ++ (x :: Q))) ((P.length + A.length : Nat) : Int))) P.length (P.length + A.length)
  (fun m lo hi h1 h2 h3=>by
   have hm : W (Di .u64 (IntKind.wrap .u64 (W ((lo : Int) + (hi : Int)))) 1) = (((lo + hi) / 2 : Nat) : Int):=by rw [midP (by omega) (by omega) (by omega)]; omega
   rw [Da,if_pos (by simp only [decide_eq_true_eq]; omega)]
   simp only [Gs]
   rw [hm,Ho (Fh.2 (by rw [hd]; omega)),Ho (Fh.2 (by rw [hd]; omega)),nx,Hv (n:=(((lo + hi) / 2 : Nat) : Int) + 1) (by omega) (by omega)]
   rfl)
  (fun m lo=>by rw [Da,if_neg (by simp)])
  (fun s t h1 h2 h3 ht=>by
   simp only [nb t (by omega) h3,Bool.not_eq_true',decide_eq_false_iff_not] at ht
   simp only [nb s h1 (by omega),Bool.not_eq_true',decide_eq_false_iff_not]
   exact hO.tr _ (hA _ (List.getElem_mem _)) _ (hA _ (List.getElem_mem _)) x hx (Sm hO hA hs (i:=s - P.length) (k:=t - P.length) (by omega) (by omega) (by omega)) ht)
  ((((P.length + A.length : Nat) : Int) - (P.length : Int)).toNat + 2) P.length (P.length + A.length) (by omega) (Nat.le_refl _) (by omega) (Nat.le_refl _) (fun t h1 h2=>by omega) (fun t h1 h2=>by omega)
 rw [k1]
 have l1 : (A.take (k - P.length)).length = k - P.length:=by rw [List.length_take]; omega
 have l2 : (A.drop (k - P.length)).length = A.length - (k - P.length):=by rw [List.length_drop]
 have e : P ++ (A ++ (x :: Q)) = (P ++ A.take (k - P.length)) ++ ((A.drop (k - P.length)).reverse.reverse ++ x :: Q):=by
  rw [List.reverse_reverse,List.append_assoc,← List.append_assoc (A.take _),List.take_append_drop]
 have hm:=mv2 (k : Int) (fun x15=>some x15) x (A.drop (k - P.length)).reverse (P ++ A.take (k - P.length)) Q ((((P.length + A.length : Nat) : Int) - (k : Int)).toNat + 2) (by rw [List.length_reverse,l2]; omega) (by simp only [List.length_append,List.length_reverse,l1,l2]; omega) (by simp only [List.length_append,l1]; omega)
 rw [← e,show (P ++ A.take (k - P.length)).length + (A.drop (k - P.length)).reverse.length = P.length + A.length by simp only [List.length_append,List.length_reverse,l1,l2]; omega] at hm
 rw [hm]
 refine ⟨A.take (k - P.length) ++ x :: A.drop (k - P.length),by simp,?_,?_⟩
 ·have h1:=List.perm_middle (a:=x) (l₁:=A.take (k - P.length)) (l₂:=A.drop (k - P.length))
  rw [List.take_append_drop] at h1
  exact h1.trans (List.perm_append_singleton x A).symm
 ·have hs2:=hs
  rw [← List.take_append_drop (k - P.length) A,List.pairwise_append] at hs2
  refine List.pairwise_append.2 ⟨hs2.1,List.pairwise_cons.2 ⟨fun y hy=>?_,hs2.2.1⟩,fun y hy z hz=>?_⟩
  ·obtain ⟨i,hi,h1,rfl⟩:=Ui hy
   have:=k5 (P.length + i) (by omega) (by omega)
   simp only [nb _ (show P.length ≤ P.length + i by omega) (by omega),Bool.not_eq_false',decide_eq_true_eq,show P.length + i - P.length = i by omega] at this
   exact hO.of hx (hA _ (List.getElem_mem _)) this
  ·rcases List.mem_cons.1 hz with rfl | hz
   ·obtain ⟨i,hi,h1,rfl⟩:=Uh hy
    have:=k4 (P.length + i) (by omega) (by omega)
    simp only [nb _ (show P.length ≤ P.length + i by omega) (by omega),Bool.not_eq_true',decide_eq_false_iff_not,show P.length + i - P.length = i by omega] at this
    exact this
   ·exact hs2.2.2 y hy z hz
omit hO in
theorem EN {f : Nat} (ih : ∀ (P A B Q : List An),A ≠ [] → B ≠ [] → A.length + B.length ≤ 2 ^ f → (∀ x ∈ A,x ∈ D) → (∀ x ∈ B,x ∈ D) → A.Pairwise leO → B.Pairwise leO → P.length + A.length + B.length + Q.length < 100000 →
   ∃ C,Cm f (P ++ (A ++ (B ++ Q))) (P.length : Int) ((P.length + A.length : Nat) : Int) ((P.length + A.length + B.length : Nat) : Int) = some (P ++ (C ++ Q)) ∧ C.Perm (A ++ B) ∧ C.Pairwise leO)
  (P X Y Q : List An) (hsz : X.length + Y.length ≤ 2 ^ f) (hX : ∀ x ∈ X,x ∈ D) (hY : ∀ x ∈ Y,x ∈ D) (sX : X.Pairwise leO) (sY : Y.Pairwise leO) (hl : P.length + X.length + Y.length + Q.length < 100000) {a m b : Int} (ha : a = (P.length : Int)) (hm : m = ((P.length + X.length : Nat) : Int)) (hb : b = ((P.length + X.length + Y.length : Nat) : Int)) :
  ∃ C,C.Perm (X ++ Y) ∧ C.Pairwise leO ∧ ∀ K : List An → Option (List An),(if (decide (a < m) && decide (m < b)) = true then Option.bind (Cm f (P ++ (X ++ (Y ++ Q))) a m b) K else K (P ++ (X ++ (Y ++ Q)))) = K (P ++ (C ++ Q)):=by
 subst ha hm hb
 by_cases hx : X = []
 ·subst hx
  exact ⟨Y,List.Perm.refl _,sY,fun K=>by rw [if_neg (by simp)]; rfl⟩
 ·by_cases hy : Y = []
  ·subst hy
   exact ⟨X,by rw [List.append_nil],sX,fun K=>by rw [if_neg (by simp)]; rfl⟩
  ·obtain ⟨C,c1,c2,c3⟩:=ih P X Y Q hx hy hsz hX hY sX sY hl
   have h1:=List.length_pos_iff.2 hx
   have h2:=List.length_pos_iff.2 hy
   exact ⟨C,c2,c3,fun K=>by rw [if_pos (by simp; omega),c1]; rfl⟩
theorem EO : ∀ (f : Nat) (P A B Q : List An),A ≠ [] → B ≠ [] → A.length + B.length ≤ 2 ^ f → (∀ x ∈ A,x ∈ D) → (∀ x ∈ B,x ∈ D) → A.Pairwise leO → B.Pairwise leO → P.length + A.length + B.length + Q.length < 100000 →
  ∃ C,Cm f (P ++ (A ++ (B ++ Q))) (P.length : Int) ((P.length + A.length : Nat) : Int) ((P.length + A.length + B.length : Nat) : Int) = some (P ++ (C ++ Q)) ∧ C.Perm (A ++ B) ∧ C.Pairwise leO
 | 0,P,A,B,Q,hA,hB,h,_,_,_,_,_=>by
  have h1:=List.length_pos_iff.2 hA
  have h2:=List.length_pos_iff.2 hB
  simp only [Nat.pow_zero] at h
  omega
 | f + 1,P,A,B,Q,hA,hB,hsz,dA,dB,sA,sB,hl=>by
  have h1:=List.length_pos_iff.2 hA
  have h2:=List.length_pos_iff.2 hB
  rw [Cm]
  by_cases c1 : A.length = 1
  ·match A,c1 with
   | [x],_ =>
    obtain ⟨C,r1,r2,r3⟩:=sym_1 hO (Cm f) P B Q x (dA x (by simp)) dB sB (by simp at hl; omega)
    exact ⟨C,r1,r2,r3⟩
  ·by_cases c2 : B.length = 1
   ·match B,c2 with
    | [x],_=>exact sym_2 hO (Cm f) P A Q x (dB x (by simp)) dA sA (by simp at hl; omega) c1
   ·have ih:=fun P A B Q a1 a2 a3 a4 a5 a6 a7 a8=>EO f P A B Q a1 a2 a3 a4 a5 a6 a7 a8
    unfold Ds
    rw [if_neg (by rw [Hv (by omega) (by omega)]; simp only [decide_eq_true_eq]; omega),if_neg (by rw [Hv (by omega) (by omega)]; simp only [decide_eq_true_eq]; omega)]
    simp only [Gs]
    have hmid : W (Di .u64 (IntKind.wrap .u64 (W ((P.length : Int) + ((P.length + A.length + B.length : Nat) : Int)))) 1) = (((P.length + (P.length + A.length + B.length)) / 2 : Nat) : Int):=by rw [midP (by omega) (by omega) (by omega)]; omega
    rw [hmid]
    have hpw : 2 ^ (f + 1) = 2 * 2 ^ f:=by rw [Nat.pow_succ]; omega
    obtain ⟨mid,hmd⟩ : ∃ mid,mid = (P.length + (P.length + A.length + B.length)) / 2:=⟨_,rfl⟩
    rw [← hmd]
    have hd : (P ++ (A ++ (B ++ Q))).length = P.length + A.length + B.length + Q.length:=by simp; omega
    have na : ∀ t (h1 : P.length ≤ t) (h2 : t < P.length + A.length),nth (P ++ (A ++ (B ++ Q))) (t : Int) = A[t - P.length]:=fun t h1 h2=>Uz P A (B ++ Q) (i:=t - P.length) (by omega) (by omega)
    have nb : ∀ t (h1 : P.length + A.length ≤ t) (h2 : t < P.length + A.length + B.length),nth (P ++ (A ++ (B ++ Q))) (t : Int) = B[t - (P.length + A.length)]:=fun t h1 h2=>by
     have:=Uz (P ++ A) B Q (i:=t - (P.length + A.length)) (by omega) (e:=(t : Int)) (by simp; omega)
     rw [List.append_assoc] at this
     exact this
    have w1 : W ((mid : Int) + ((P.length + A.length : Nat) : Int)) = ((mid + (P.length + A.length) : Nat) : Int):=by rw [Hv (by omega) (by omega)]; omega
    simp only [w1]
    have w2 : W (((mid + (P.length + A.length) : Nat) : Int) - 1) = ((mid + (P.length + A.length) - 1 : Nat) : Int):=by rw [Hv (by omega) (by omega)]; omega
    -- from wherever the search begins
    have core : ∀ (st r : Nat),P.length ≤ st → st ≤ r → r ≤ P.length + A.length → r ≤ mid → mid ≤ st + B.length → (st = P.length ∨ mid = st + B.length) → (r = P.length + A.length ∨ r = mid) → ∃ C,(Cw (P.length : Int) ((P.length + A.length + B.length : Nat) : Int) ((P.length + A.length : Nat) : Int) (P ++ (A ++ (B ++ Q))) (fun x19 =>
      if (decide (x19 < ((P.length + A.length : Nat) : Int)) && decide (((P.length + A.length : Nat) : Int) < W (((mid + (P.length + A.length) : Nat) : Int) - x19))) = true then
       (Ek (P ++ (A ++ (B ++ Q))) x19 ((P.length + A.length : Nat) : Int) (W (((mid + (P.length + A.length) : Nat) : Int) - x19))).bind fun r1 =>
        if (decide ((P.length : Int) < x19) && decide (x19 < (mid : Int))) = true then
         (Cm f r1 (P.length : Int) x19 (mid : Int)).bind fun r2 =>
          if (decide ((mid : Int) < W (((mid + (P.length + A.length) : Nat) : Int) - x19)) && decide (W (((mid + (P.length + A.length) : Nat) : Int) - x19) < ((P.length + A.length + B.length : Nat) : Int))) = true then
           (Cm f r2 (mid : Int) (W (((mid + (P.length + A.length) : Nat) : Int) - x19)) ((P.length + A.length + B.length : Nat) : Int)).bind fun r3=>some r3
          else some r2
        else if (decide ((mid : Int) < W (((mid + (P.length + A.length) : Nat) : Int) - x19)) && decide (W (((mid + (P.length + A.length) : Nat) : Int) - x19) < ((P.length + A.length + B.length : Nat) : Int))) = true then
           (Cm f r1 (mid : Int) (W (((mid + (P.length + A.length) : Nat) : Int) - x19)) ((P.length + A.length + B.length : Nat) : Int)).bind fun r3=>some r3
          else some r1
      else if (decide ((P.length : Int) < x19) && decide (x19 < (mid : Int))) = true then
         (Cm f (P ++ (A ++ (B ++ Q))) (P.length : Int) x19 (mid : Int)).bind fun r2 =>
          if (decide ((mid : Int) < W (((mid + (P.length + A.length) : Nat) : Int) - x19)) && decide (W (((mid + (P.length + A.length) : Nat) : Int) - x19) < ((P.length + A.length + B.length : Nat) : Int))) = true then
           (Cm f r2 (mid : Int) (W (((mid + (P.length + A.length) : Nat) : Int) - x19)) ((P.length + A.length + B.length : Nat) : Int)).bind fun r3=>some r3
          else some r2
        else if (decide ((mid : Int) < W (((mid + (P.length + A.length) : Nat) : Int) - x19)) && decide (W (((mid + (P.length + A.length) : Nat) : Int) - x19) < ((P.length + A.length + B.length : Nat) : Int))) = true then
           (Cm f (P ++ (A ++ (B ++ Q))) (mid : Int) (W (((mid + (P.length + A.length) : Nat) : Int) - x19)) ((P.length + A.length + B.length : Nat) : Int)).bind fun r3=>some r3
          else some (P ++ (A ++ (B ++ Q)))) (((r : Int) - (st : Int)).toNat + 2) (st : Int) (r : Int)) = some (P ++ (C ++ Q)) ∧ C.Perm (A ++ B) ∧ C.Pairwise leO:=by
     intro st r g1 g2 g3 g4 g5 g6 g7
     have na' : ∀ i (hi : i < A.length) (c : Nat),c = P.length + i → nth (P ++ (A ++ (B ++ Q))) (c : Int) = A[i]:=fun i hi c e=>Uz P A (B ++ Q) hi (by omega)
     have nb' : ∀ i (hi : i < B.length) (c : Nat),c = P.length + A.length + i → nth (P ++ (A ++ (B ++ Q))) (c : Int) = B[i]:=fun i hi c e=>by
      have:=Uz (P ++ A) B Q hi (e:=(c : Int)) (by simp; omega)
      rw [List.append_assoc] at this
      exact this
     have pk : ∀ (c i t : Nat) (hi : i < A.length) (ht : t < B.length),c = P.length + i → t + c + 1 = mid → (!decide (Df (nth (P ++ (A ++ (B ++ Q))) ((mid + (P.length + A.length) - 1 - c : Nat) : Int)) (nth (P ++ (A ++ (B ++ Q))) (c : Int)) < 0)) = !decide (Df B[t] A[i] < 0):=fun c i t hi ht e1 e2=>by
      rw [na' i hi c e1,nb' t ht _ (by omega)]
     obtain ⟨k,k1,k2,k3,k4,k5⟩:=Xg (fun c=>!decide (Df (nth (P ++ (A ++ (B ++ Q))) ((mid + (P.length + A.length) - 1 - c : Nat) : Int)) (nth (P ++ (A ++ (B ++ Q))) (c : Int)) < 0)) _
      (Cw (P.length : Int) ((P.length + A.length + B.length : Nat) : Int) ((P.length + A.length : Nat) : Int) (P ++ (A ++ (B ++ Q))) _) st r
      (fun m lo hi h1 h2 h3=>by
       have hm : W (Di .u64 (IntKind.wrap .u64 (W ((lo : Int) + (hi : Int)))) 1) = (((lo + hi) / 2 : Nat) : Int):=by rw [midP (by omega) (by omega) (by omega)]; omega
       have w3 : W (((mid + (P.length + A.length) - 1 : Nat) : Int) - (((lo + hi) / 2 : Nat) : Int)) = ((mid + (P.length + A.length) - 1 - (lo + hi) / 2 : Nat) : Int):=by rw [Hv (by omega) (by omega)]; omega
       rw [Cw,if_pos (by simp only [decide_eq_true_eq]; omega)]
       simp only [Gs]
       rw [hm,hmid,← hmd,w1,w2,w3,Ho (Fh.2 (by rw [hd]; omega)),Ho (Fh.2 (by rw [hd]; omega)),Hv (n:=(((lo + hi) / 2 : Nat) : Int) + 1) (by omega) (by omega)]
       rfl)
      (fun m lo=>by rw [Cw,if_neg (by simp)])
      (fun s t h1 h2 h3 ht=>by
       rw [pk t (t - P.length) (mid - 1 - t) (by omega) (by omega) (by omega) (by omega)] at ht
       rw [pk s (s - P.length) (mid - 1 - s) (by omega) (by omega) (by omega) (by omega)]
       simp only [Bool.not_eq_true',decide_eq_false_iff_not] at ht ⊢
       exact hO.tr _ (dA _ (List.getElem_mem _)) _ (dB _ (List.getElem_mem (n:=mid - 1 - t) (by omega))) _ (dB _ (List.getElem_mem _)) (hO.tr _ (dA _ (List.getElem_mem _)) _ (dA _ (List.getElem_mem (n:=t - P.length) (by omega))) _ (dB _ (List.getElem_mem _)) (Sm hO dA sA (by omega) (by omega) (by omega)) ht) (Sm hO dB sB (by omega) (by omega) (by omega)))
      (((r : Int) - (st : Int)).toNat + 2) st r (by omega) (Nat.le_refl _) g2 (Nat.le_refl _) (fun t h1 h2=>by omega) (fun t h1 h2=>by omega)
     have w4 : W (((mid + (P.length + A.length) : Nat) : Int) - (k : Int)) = ((mid + (P.length + A.length) - k : Nat) : Int):=by rw [Hv (by omega) (by omega)]; omega
     have la1 : (A.take (k - P.length)).length = k - P.length:=by rw [List.length_take]; omega
     have la2 : (A.drop (k - P.length)).length = A.length - (k - P.length):=by rw [List.length_drop]
     have lb1 : (B.take (mid - k)).length = mid - k:=by rw [List.length_take]; omega
     have lb2 : (B.drop (mid - k)).length = B.length - (mid - k):=by rw [List.length_drop]
     -- what lies across
     have X1 : ∀ x ∈ A.take (k - P.length),∀ y ∈ B.drop (mid - k),leO x y:=fun x hx y hy=>by
      obtain ⟨i,hi,hik,rfl⟩:=Uh hx
      obtain ⟨t,ht,htk,rfl⟩:=Ui hy
      rcases Nat.lt_or_ge st k with h | h
      ·have h3:=k4 (k - 1) (by omega) (by omega)
       rw [pk (k - 1) (k - 1 - P.length) (mid - k) (by omega) (by omega) (by omega) (by omega)] at h3
       simp only [Bool.not_eq_true',decide_eq_false_iff_not] at h3
       exact hO.tr _ (dA _ (List.getElem_mem _)) _ (dB _ (List.getElem_mem (n:=mid - k) (by omega))) _ (dB _ (List.getElem_mem _)) (hO.tr _ (dA _ (List.getElem_mem _)) _ (dA _ (List.getElem_mem (n:=k - 1 - P.length) (by omega))) _ (dB _ (List.getElem_mem _)) (Sm hO dA sA (by omega) (by omega) (by omega)) h3) (Sm hO dB sB (by omega) (by omega) htk)
      ·omega
     have X2 : ∀ x ∈ B.take (mid - k),∀ y ∈ A.drop (k - P.length),leO x y:=fun x hx y hy=>by
      obtain ⟨t,ht,htk,rfl⟩:=Uh hx
      obtain ⟨i,hi,hik,rfl⟩:=Ui hy
      rcases Nat.lt_or_ge k r with h | h
      ·have h3:=k5 k (Nat.le_refl _) h
       rw [pk k (k - P.length) (mid - 1 - k) (by omega) (by omega) (by omega) (by omega)] at h3
       simp only [Bool.not_eq_false',decide_eq_true_eq] at h3
       have h4:=hO.of (dB _ (List.getElem_mem _)) (dA _ (List.getElem_mem _)) h3
       exact hO.tr _ (dB _ (List.getElem_mem _)) _ (dA _ (List.getElem_mem (n:=k - P.length) (by omega))) _ (dA _ (List.getElem_mem _)) (hO.tr _ (dB _ (List.getElem_mem _)) _ (dB _ (List.getElem_mem (n:=mid - 1 - k) (by omega))) _ (dA _ (List.getElem_mem _)) (Sm hO dB sB (by omega) (by omega) (by omega)) h4) (Sm hO dA sA (by omega) (by omega) hik)
      ·omega
     have sA2:=sA
     have sB2:=sB
     rw [← List.take_append_drop (k - P.length) A,List.pairwise_append] at sA2
     rw [← List.take_append_drop (mid - k) B,List.pairwise_append] at sB2
     have hAA:=List.take_append_drop (k - P.length) A
     have hBB:=List.take_append_drop (mid - k) B
     have dA1 : ∀ x ∈ A.take (k - P.length),x ∈ D:=fun x hx=>dA x (List.mem_of_mem_take hx)
     have dA2 : ∀ x ∈ A.drop (k - P.length),x ∈ D:=fun x hx=>dA x (List.mem_of_mem_drop hx)
     have dB1 : ∀ x ∈ B.take (mid - k),x ∈ D:=fun x hx=>dB x (List.mem_of_mem_take hx)
     have dB2 : ∀ x ∈ B.drop (mid - k),x ∈ D:=fun x hx=>dB x (List.mem_of_mem_drop hx)
     obtain ⟨C1,p1,s1,f1⟩:=EN (fun P A B Q a1 a2 a3 a4 a5 a6 a7 a8=>ih P A B Q a1 a2 a3 a4 a5 a6 a7 a8) P (A.take (k - P.length)) (B.take (mid - k)) (A.drop (k - P.length) ++ (B.drop (mid - k) ++ Q)) (by rw [la1,lb1]; omega) dA1 dB1 sA2.1 sB2.1 (by rw [List.length_append,List.length_append,la1,la2,lb1,lb2]; omega) (a:=(P.length : Int)) (m:=(k : Int)) (b:=(mid : Int)) rfl (by rw [la1]; omega) (by rw [la1,lb1]; omega)
     have lC1 : C1.length = mid - P.length:=by rw [p1.length_eq,List.length_append,la1,lb1]; omega
     obtain ⟨C2,p2,s2,f2⟩:=EN (fun P A B Q a1 a2 a3 a4 a5 a6 a7 a8=>ih P A B Q a1 a2 a3 a4 a5 a6 a7 a8) (P ++ C1) (A.drop (k - P.length)) (B.drop (mid - k)) Q (by rw [la2,lb2]; omega) dA2 dB2 sA2.2.1 sB2.2.1 (by rw [List.length_append,lC1,la2,lb2]; omega) (a:=(mid : Int)) (m:=((mid + (P.length + A.length) - k : Nat) : Int)) (b:=((P.length + A.length + B.length : Nat) : Int)) (by rw [List.length_append,lC1]; omega) (by rw [List.length_append,lC1,la2]; omega) (by rw [List.length_append,lC1,la2,lb2]; omega)
     have hrot : ∀ K : List An → Option (List An),(if (decide ((k : Int) < ((P.length + A.length : Nat) : Int)) && decide (((P.length + A.length : Nat) : Int) < ((mid + (P.length + A.length) - k : Nat) : Int))) = true then Option.bind (Ek (P ++ (A ++ (B ++ Q))) (k : Int) ((P.length + A.length : Nat) : Int) ((mid + (P.length + A.length) - k : Nat) : Int)) K else K (P ++ (A ++ (B ++ Q)))) = K (P ++ (A.take (k - P.length) ++ (B.take (mid - k) ++ (A.drop (k - P.length) ++ (B.drop (mid - k) ++ Q))))):=fun K=>by
      have e0 : P ++ (A ++ (B ++ Q)) = (P ++ A.take (k - P.length)) ++ (A.drop (k - P.length) ++ (B.take (mid - k) ++ (B.drop (mid - k) ++ Q))):=by
       rw [← List.append_assoc (B.take _),hBB,List.append_assoc P,← List.append_assoc (A.take _),hAA]
      by_cases h : k < P.length + A.length ∧ k < mid
      ·rw [if_pos (by simp; omega),e0,rot_is (P ++ A.take (k - P.length)) (A.drop (k - P.length)) (B.take (mid - k)) (B.drop (mid - k) ++ Q) (List.ne_nil_of_length_pos (by omega)) (List.ne_nil_of_length_pos (by omega)) (by rw [List.length_append,la1]; omega) (by rw [List.length_append,la1,la2]; omega) (by rw [List.length_append,la1,la2,lb1]; omega) (by simp only [List.length_append]; rw [la1,la2,lb1,lb2]; omega),Option.bind_some,List.append_assoc]
      ·rw [if_neg (by simp; omega),e0]
       congr 1
       rcases Nat.lt_or_ge k (P.length + A.length) with h3 | h3
       ·have : B.take (mid - k) = []:=List.length_eq_zero_iff.1 (by omega)
        rw [this]; simp
       ·have : A.drop (k - P.length) = []:=List.length_eq_zero_iff.1 (by omega)
        rw [this]; simp
     refine ⟨C1 ++ C2,?_,?_,?_⟩
     ·rw [k1]
      simp only [w4]
      refine (hrot _).trans ?_
      refine (f1 _).trans ?_
      rw [← List.append_assoc]
      refine (f2 _).trans ?_
      simp
     ·refine (p1.append p2).trans ?_
      have e1 : (A.take (k - P.length) ++ B.take (mid - k) ++ (A.drop (k - P.length) ++ B.drop (mid - k))).Perm ((A.take (k - P.length) ++ A.drop (k - P.length)) ++ (B.take (mid - k) ++ B.drop (mid - k))):=by
       rw [List.append_assoc,List.append_assoc]
       refine List.Perm.append_left _ ?_
       rw [← List.append_assoc,← List.append_assoc]
       exact List.Perm.append_right _ List.perm_append_comm
      rw [hAA,hBB] at e1
      exact e1
     ·refine List.pairwise_append.2 ⟨s1,s2,fun x hx y hy=>?_⟩
      rcases List.mem_append.1 (p1.mem_iff.1 hx) with h | h <;> rcases List.mem_append.1 (p2.mem_iff.1 hy) with h' | h'
      ·exact sA2.2.2 x h y h'
      ·exact X1 x h y h'
      ·exact X2 x h y h'
      ·exact sB2.2.2 x h y h'
    split
    ·rename_i hc
     have hc:=of_decide_eq_true hc
     have e1 : W (((mid + (P.length + A.length) : Nat) : Int) - ((P.length + A.length + B.length : Nat) : Int)) = ((mid - B.length : Nat) : Int):=by rw [Hv (by omega) (by omega)]; omega
     rw [e1]
     exact core (mid - B.length) mid (by omega) (by omega) (by omega) (by omega) (by omega) (.inr (by omega)) (.inr rfl)
    ·rename_i hc
     have hc : ¬ (mid : Int) < ((P.length + A.length : Nat) : Int):=fun e=>hc (decide_eq_true e)
     exact core P.length (P.length + A.length) (by omega) (by omega) (by omega) (by omega) (by omega) (.inl rfl) (.inl rfl)
end
theorem EP (P : List An) (j : List An → Option (List An)) (x : An) : ∀ (rp post : List An) (m : Nat),rp.length < m → P.length + rp.length + post.length < 100000 →
  Cp (P.length : Int) j m (P ++ (rp.reverse ++ x :: post)) ((P.length + rp.length : Nat) : Int) = j (P ++ ((Ow ltO x rp).reverse ++ post))
 | [],post,m,h1,h2=>by
  obtain ⟨m,rfl⟩ : ∃ q,m = q + 1:=⟨m - 1,by omega⟩
  rw [Cp]
  simp only [Gs]
  rw [if_neg (by simp),if_neg (by simp)]
  rfl
 | y :: r,post,m,h1,h2=>by
  obtain ⟨m,rfl⟩ : ∃ q,m = q + 1:=⟨m - 1,by omega⟩
  simp only [List.length_cons] at h1 h2 ⊢
  have hA : (P ++ r.reverse).length = P.length + r.length:=by simp
  have w0 : ((P.length + (r.length + 1) : Nat) : Int) = (((P ++ r.reverse).length + 1 + ([] : List An).length : Nat) : Int):=by rw [hA]; simp; omega
  have w1 : W (((P.length + (r.length + 1) : Nat) : Int) - 1) = ((P ++ r.reverse).length : Int):=by rw [Hv (by omega) (by omega),hA]; omega
  have e : P ++ ((y :: r).reverse ++ x :: post) = (P ++ r.reverse) ++ y :: ([] ++ x :: post):=by simp
  obtain ⟨n1,n2⟩:=Wf (P ++ r.reverse) [] post y x
  have hl : ((P ++ r.reverse) ++ y :: ([] ++ x :: post)).length = P.length + r.length + 2 + post.length:=by simp; omega
  have c1 : inB (((P ++ r.reverse).length + 1 + ([] : List An).length : Nat) : Int) ((P ++ r.reverse) ++ y :: ([] ++ x :: post)).length = true:=Fh.2 (by rw [hl,hA]; simp; omega)
  have c2 : inB ((P ++ r.reverse).length : Int) ((P ++ r.reverse) ++ y :: ([] ++ x :: post)).length = true:=Fh.2 (by rw [hl,hA]; omega)
  rw [Cp]
  simp only [Gs]
  rw [if_pos (by simp only [decide_eq_true_eq]; omega),w1,e,w0,Ho c1,Ho c2,n1,n2,Ow]
  by_cases hc : Df x y < 0
  ·have hb : ltO x y = true:=decide_eq_true hc
   rw [if_pos (decide_eq_true hc),if_pos hb,Ho c2,Ho c1,Ho c1,Ho (by rw [List.length_set]; exact c2),Int.toNat_natCast,Int.toNat_natCast,AG]
   have ih:=EP P j x r (y :: post) m (by omega) (by simp; omega)
   have e2 : (P ++ r.reverse) ++ x :: ([] ++ y :: post) = P ++ (r.reverse ++ x :: (y :: post)):=by simp
   rw [e2,hA,ih]
   simp
  ·have hb : ¬ ltO x y = true:=fun h=>hc (of_decide_eq_true h)
   rw [if_neg (by simpa using hc),if_neg hb]
   simp
theorem EQ (P Q : List An) (j : List An → Option (List An)) (b : Nat) : ∀ (rest rp : List An) (m : Nat),rest.length < m → b = P.length + rp.length + rest.length → b + Q.length < 100000 →
  Cr (b : Int) (P.length : Int) j m (P ++ (rp.reverse ++ (rest ++ Q))) ((P.length + rp.length : Nat) : Int) = j (P ++ ((Ox ltO rest rp).reverse ++ Q))
 | [],rp,m,h1,h2,h3=>by
  obtain ⟨m,rfl⟩ : ∃ q,m = q + 1:=⟨m - 1,by omega⟩
  simp only [List.length_nil] at h2
  rw [Cr,if_neg (by simp only [decide_eq_true_eq]; omega)]
  rfl
 | x :: rest,rp,m,h1,h2,h3=>by
  obtain ⟨m,rfl⟩ : ∃ q,m = q + 1:=⟨m - 1,by omega⟩
  simp only [List.length_cons] at h1 h2
  rw [Cr,if_pos (by simp only [decide_eq_true_eq]; omega),Gs,List.cons_append,EP P _ x rp (rest ++ Q) _ (by omega) (by rw [List.length_append]; omega),Hv (by omega) (by omega)]
  have ih:=EQ P Q j b rest (Ow ltO x rp) m (by omega) (by rw [Oy]; omega) h3
  rw [Oy,show ((P.length + (rp.length + 1) : Nat) : Int) = ((P.length + rp.length : Nat) : Int) + 1 by omega] at ih
  exact ih
theorem CF (P X Q : List An) {a b : Int} (ha : a = (P.length : Int)) (hb : b = ((P.length + X.length : Nat) : Int)) (hs : P.length + X.length + Q.length < 90000) : Dm (P ++ (X ++ Q)) a b = some (P ++ (Mr ltO X ++ Q)):=by
 subst ha hb
 unfold Dm
 rw [Gs,Hv (by omega) (by omega)]
 cases X with
 | nil =>
  rw [Cr,if_neg (by simp only [decide_eq_true_eq,List.length_nil]; omega)]
  rfl
 | cons x l =>
  have:=EQ P Q (fun x1=>some x1) (P.length + (x :: l).length) l [x] ((((P.length + (x :: l).length : Nat) : Int) - ((P.length : Int) + 1)).toNat + 2) (by simp only [List.length_cons]; omega) (by simp only [List.length_cons,List.length_nil]; omega) (by omega)
  exact this
section
variable {D : List An} (hO : Vg D)
include hO
theorem CG (x : An) (hx : x ∈ D) : ∀ rp : List An,(∀ y ∈ rp,y ∈ D) → rp.Pairwise (fun a b=>leO b a) → (Ow ltO x rp).Pairwise fun a b=>leO b a
 | [],_,_=>by simp [Ow]
 | y :: r,hd,h=>by
  rw [List.pairwise_cons] at h
  have hy:=hd y (by simp)
  unfold Ow
  by_cases hc : Df x y < 0
  ·rw [if_pos (show ltO x y = true from decide_eq_true hc)]
   refine List.pairwise_cons.2 ⟨fun z hz=>?_,CG x hx r (fun z hz=>hd z (by simp [hz])) h.2⟩
   rcases (Uf ltO x z r).1 hz with rfl | hz
   ·exact hO.of hx hy hc
   ·exact h.1 z hz
  ·rw [if_neg (show ¬ ltO x y = true from fun e=>hc (of_decide_eq_true e))]
   refine List.pairwise_cons.2 ⟨fun z hz=>?_,List.pairwise_cons.2 h⟩
   rcases List.mem_cons.1 hz with rfl | hz
   ·exact hc
   ·exact hO.tr z (hd z (by simp [hz])) y hy x hx (h.1 z hz) hc
theorem AH : ∀ l rp : List An,(∀ y ∈ l,y ∈ D) → (∀ y ∈ rp,y ∈ D) → rp.Pairwise (fun a b=>leO b a) → (Ox ltO l rp).Pairwise fun a b=>leO b a
 | [],rp,_,_,h=>h
 | x :: l,rp,hl,hr,h=>by
  show (Ox ltO l (Ow ltO x rp)).Pairwise _
  refine AH l _ (fun y hy=>hl y (by simp [hy])) (fun y hy=>?_) (CG hO x (hl x (by simp)) rp hr h)
  rcases (Uf ltO x y rp).1 hy with rfl | hy
  ·exact hl _ (by simp)
  ·exact hr y hy
theorem Sv (l : List An) (hl : ∀ y ∈ l,y ∈ D) : (Mr ltO l).Pairwise leO:=by
 unfold Mr
 rw [List.pairwise_reverse]
 exact AH hO l [] hl (fun _ h=>by cases h) List.Pairwise.nil
theorem DC (l : List An) (hl : l.length ≤ 39) (dl : ∀ x ∈ l,x ∈ D) : ∃ C,Dq l = some C ∧ C.Perm l ∧ C.Pairwise leO:=by
 rcases Nat.lt_or_ge l.length 20 with h | h
 ·exact ⟨_,Yd l (by omega),Tp ltO l,Sv hO l dl⟩
 ·have hX:=List.length_take_of_le (l:=l) h
  have hY : (l.drop 20).length = l.length - 20:=List.length_drop
  have hXY:=List.take_append_drop 20 l
  have dX : ∀ x ∈ l.take 20,x ∈ D:=fun x hx=>dl x (List.mem_of_mem_take hx)
  have dY : ∀ x ∈ l.drop 20,x ∈ D:=fun x hx=>dl x (List.mem_of_mem_drop hx)
  generalize l.take 20 = X at *
  generalize l.drop 20 = Y at *
  subst hXY
  rw [List.length_append] at hl
  have lX:=Xe ltO X
  have lY:=Xe ltO Y
  have i1:=CF [] X Y (a:=0) (b:=20) rfl (by simp; omega) (by simp; omega)
  have i2:=CF (Mr ltO X) Y [] (a:=20) (b:=(((X ++ Y).length : Nat) : Int)) (by omega) (by rw [List.length_append]; omega) (by simp; omega)
  rw [List.nil_append,List.nil_append] at i1
  rw [List.append_nil,List.append_nil] at i2
  unfold Dq Fk
  simp only [Gs]
  have hn : ((X ++ Y).length : Int) = 20 + (Y.length : Int):=by rw [List.length_append]; omega
  have hf : (((X ++ Y).length : Int) - 20).toNat + 2 = Y.length + 2:=by omega
  rw [hf,Db,if_pos (by rw [hn]; simp only [decide_eq_true_eq]; omega),i1,Option.bind_some,show W ((20 : Int) + 20) = 40 from rfl,Db,if_neg (by rw [hn]; simp only [decide_eq_true_eq]; omega),i2,Option.bind_some]
  rw [Dc]
  have p1:=(Tp ltO X).append (Tp ltO Y)
  by_cases hy : Y = []
  ·subst hy
   rw [if_neg (by simp only [List.append_nil,decide_eq_true_eq]; omega)]
   exact ⟨_,rfl,p1,by simpa [Mr,Ox] using Sv hO X dX⟩
  ·have hy0:=List.length_pos_iff.2 hy
   rw [if_pos (by rw [hn]; simp only [decide_eq_true_eq]; omega)]
   simp only [Gs]
   obtain ⟨C,c1,c2,c3⟩:=EO hO 16 [] (Mr ltO X) (Mr ltO Y) [] (List.ne_nil_of_length_pos (by omega)) (List.ne_nil_of_length_pos (by omega)) (Nat.le_trans (show _ ≤ 39 by omega) (by decide)) (fun x hx=>dX x ((Yg ltO X x).1 hx)) (fun x hx=>dY x ((Yg ltO Y x).1 hx)) (Sv hO X dX) (Sv hO Y dY) (by simp; omega)
   rw [List.nil_append,List.append_nil,List.append_nil,List.nil_append] at c1
   have c1' : Cm 16 (Mr ltO X ++ Mr ltO Y) 0 20 ((X ++ Y).length : Int) = some C:=by
    have q1 : ((([] : List An).length : Nat) : Int) = 0:=rfl
    have q2 : ((([] : List An).length + (Mr ltO X).length : Nat) : Int) = 20:=by rw [List.length_nil]; omega
    have q3 : ((([] : List An).length + (Mr ltO X).length + (Mr ltO Y).length : Nat) : Int) = ((X ++ Y).length : Int):=by rw [List.length_nil,List.length_append]; omega
    rw [q1,q2,q3] at c1
    exact c1
   rw [show W (2 * (20 : Int)) = 40 from rfl,Dk,if_neg (by rw [hn]; simp only [decide_eq_true_eq]; omega),show W ((0 : Int) + 20) = 20 from rfl,if_pos (by rw [hn]; simp only [decide_eq_true_eq]; omega),c1',Option.bind_some,show W ((20 : Int) * 2) = 40 from rfl,
    Dc,if_neg (by rw [hn]; simp only [decide_eq_true_eq]; omega)]
   exact ⟨C,rfl,c2.trans p1,c3⟩
end
end Go.Proofs.YtgfjjiheamdgbaaGreatDoor
namespace Go.Proofs.YtgfjjiheamdgbaaGreatDoor
open Go
def stf (l : List An) (id : ByteArray) : Int:=l.foldl (fun st s=>if (decide (s.Id = id) && Dp st s.Kind) then s.Kind else st) 0
theorem Tq (id : ByteArray) : ∀ (l : List An) (i : Nat) (x : Int),Gx id (fun x=>x) l i x = l.foldl (fun st s=>if (decide (s.Id = id) && Dp st s.Kind) then s.Kind else st) x
 | [],_,_=>rfl
 | y :: l,i,x=>by
  rw [Gx,List.foldl_cons]
  simp only [Gs]
  split
  ·exact Tq id l (i + 1) _
  ·exact Tq id l (i + 1) _
theorem Xh (l : List An) (id : ByteArray) : Il l id = stf l id:=Tq id l 0 0
theorem Xi (p : List An) (y : An) (id : ByteArray) : stf (p ++ [y]) id = if (decide (y.Id = id) && Dp (stf p id) y.Kind) then y.Kind else stf p id:=by
 unfold stf
 rw [List.foldl_append]
 rfl
def upS (l : List An) (t : Int) : List An:=l.filter fun s=>decide (s.At ≤ t)
theorem CH (l : List An) (hl : l.length ≤ 100000) (t : Int) : Mb l t = some (upS l t):=by
 unfold Mb upS
 rw [Gs,EJ (fun s : An=>decide (s.At ≤ t)) id (fun x=>some x) (Im t fun x=>some x) (fun _ _=>rfl) l (by omega) (fun _ _ _ _=>rfl)]
 simp
def Rt (u : List An) : List An:=sel (fun s i=>decide (s.Kind = 1) && decide (stf (u.take i) s.Id = 0)) (fun s _=>s) u 0
theorem Zf (l : List An) (t : Int) : (upS l t).length ≤ l.length:=List.length_filter_le _ _
theorem DD (l : List An) (hl : l.length ≤ 100000) (t : Int) : Ly l t = some (Rt (upS l t)):=by
 unfold Ly
 rw [CH l hl]
 simp only [Option.bind_some,Gs]
 have hu:=Zf l t
 have hh:=AC (fun s i=>decide (s.Kind = 1) && decide (stf ((upS l t).take i) s.Id = 0)) (fun s _=>s) (fun x=>some x) (He (upS l t) fun x=>some x) (fun _ _=>rfl) (upS l t) (by omega) 0 (by omega) (fun dn y ys x h _=>by
  have hc : cut (upS l t) 0 (dn.length : Int) = (upS l t).take dn.length:=by simp [cut]
  have hlen : (upS l t).length = dn.length + (ys.length + 1):=by rw [h]; simp
  rw [He]
  simp only [Gs]
  rw [Ho (Ko.2 (by omega)),Xh,hc]
  cases decide (y.Kind = 1) <;> simp) (upS l t) [] [] rfl (by simp)
 rw [List.length_nil,List.nil_append] at hh
 exact hh
theorem Sn (p : List An) (y : An) : Rt (p ++ [y]) = if (decide (y.Kind = 1) && decide (stf p y.Id = 0)) then Rt p ++ [y] else Rt p:=by
 unfold Rt
 rw [Zd]
 have h1 : sel (fun s i=>decide (s.Kind = 1) && decide (stf ((p ++ [y]).take i) s.Id = 0)) (fun s _=>s) p 0 = sel (fun s i=>decide (s.Kind = 1) && decide (stf (p.take i) s.Id = 0)) (fun s _=>s) p 0 :=
  Uy p 0 fun k z hz=>by
   have hk : k < p.length:=(List.getElem?_eq_some_iff.1 hz).1
   refine ⟨?_,fun _=>rfl⟩
   rw [List.take_append_of_le_length (by omega)]
 rw [h1]
 simp only [sel,Nat.zero_add,List.take_left']
 split <;> simp
def Uj (u : List An) : List Int:=sel (fun s i=>!Dp (stf (u.take i) s.Id) s.Kind) (fun _ i=>(i : Int)) u 0
theorem Sw (p : List An) (y : An) : Uj (p ++ [y]) = if Dp (stf p y.Id) y.Kind then Uj p else Uj p ++ [(p.length : Int)]:=by
 unfold Uj
 rw [Zd]
 have h1 : sel (fun s i=>!Dp (stf ((p ++ [y]).take i) s.Id) s.Kind) (fun _ i=>(i : Int)) p 0 = sel (fun s i=>!Dp (stf (p.take i) s.Id) s.Kind) (fun _ i=>(i : Int)) p 0 :=
  Uy p 0 fun k z hz=>by
   have hk : k < p.length:=(List.getElem?_eq_some_iff.1 hz).1
   refine ⟨?_,fun _=>rfl⟩
   rw [List.take_append_of_le_length (by omega)]
 rw [h1]
 simp only [sel,Nat.zero_add,List.take_left']
 cases Dp (stf p y.Id) y.Kind <;> simp
def DE (y : Cl) : Int:=if y.void_ then 3 else if y.sure_ then 2 else 1
structure Fol (p : List An) (sw : List Cl) : Prop where
 steps : sw.map (·.s_) = Rt p
 marks : ∀ y ∈ sw,DE y = stf p y.s_.Id
 known : ∀ id,(Jw sw id).isNone = decide (stf p id = 0)
 once : (sw.map fun y=>y.s_.Id).Nodup
theorem AI {sw : List Cl} {id : ByteArray} (h : (Jw sw id).isNone = true) : ∀ y ∈ sw,y.s_.Id ≠ id:=by
 intro y hy he
 unfold Jw at h
 rw [Option.isNone_iff_eq_none,List.findIdx?_eq_none_iff] at h
 have:=h y hy
 simp [he] at this
theorem Vh {sw : List Cl} {id : ByteArray} (h : (Jw sw id).isSome = true) : sw[My sw id]? = some (Kb sw id) ∧ (Kb sw id).s_.Id = id:=by
 obtain ⟨j,hj⟩:=Option.isSome_iff_exists.1 h
 have hp : My sw id = j:=by unfold My; rw [hj]; rfl
 unfold Jw at hj
 obtain ⟨h1,h2,_⟩:=List.findIdx?_eq_some_iff_getElem.1 hj
 have ha : Kb sw id = sw[j]:=by unfold Kb; rw [hp]; simp [List.getD,List.getElem?_eq_getElem h1]
 rw [hp,ha]
 refine ⟨List.getElem?_eq_getElem h1,?_⟩
 simpa using (of_decide_eq_true h2).symm
theorem ER {p : List An} {sw : List Cl} {y : An} (h : Fol p sw) (hf : Dp (stf p y.Id) y.Kind = false) : Fol (p ++ [y]) sw:=by
 have hs : ∀ id,stf (p ++ [y]) id = stf p id:=by
  intro id
  rw [Xi]
  by_cases hi : y.Id = id
  ·subst hi; simp [hf]
  ·simp [hi]
 refine ⟨?_,fun z hz=>by rw [hs]; exact h.marks z hz,fun id=>by rw [hs]; exact h.known id,h.once⟩
 rw [h.steps,Sn,if_neg]
 simp only [Bool.and_eq_true,decide_eq_true_eq,not_and]
 intro hk h0
 unfold Dp at hf
 simp [hk,h0] at hf
theorem fol_new {p : List An} {sw : List Cl} {y : An} (h : Fol p sw) (hk : y.Kind = 1) (hn : (Jw sw y.Id).isNone = true) : Fol (p ++ [y]) (sw ++ [Cl.mk y false false]):=by
 have h0 : stf p y.Id = 0:=by have:=h.known y.Id; rw [hn] at this; simpa using this.symm
 have hs : ∀ id,stf (p ++ [y]) id = if y.Id = id then 1 else stf p id:=by
  intro id
  rw [Xi]
  by_cases hi : y.Id = id
  ·subst hi; simp [Dp,hk,h0]
  ·simp [hi]
 have hne:=AI hn
 refine ⟨?_,?_,?_,?_⟩
 ·rw [List.map_append,h.steps,Sn,if_pos (by simp [hk,h0])]
  rfl
 ·intro z hz
  rw [hs]
  rcases List.mem_append.1 hz with hz | hz
  ·rw [if_neg (fun e=>hne z hz e.symm)]
   exact h.marks z hz
  ·rw [List.mem_singleton] at hz
   subst hz
   simp [DE]
 ·intro id
  rw [hs]
  have h1:=h.known id
  unfold Jw at h1 ⊢
  rw [List.findIdx?_append]
  by_cases hi : y.Id = id
  ·subst hi
   rw [if_pos rfl]
   cases hf : List.findIdx? (fun s : Cl=>decide (y.Id = s.s_.Id)) sw with
   | none=>simp
   | some j=>simp
  ·rw [if_neg hi,← h1]
   have h2 : List.findIdx? (fun s : Cl=>decide (id = s.s_.Id)) [Cl.mk y false false] = none:=by simp [show ¬ id = y.Id from fun e=>hi e.symm]
   rw [h2]
   cases List.findIdx? (fun s : Cl=>decide (id = s.s_.Id)) sw <;> rfl
 ·rw [List.map_append,List.nodup_append]
  refine ⟨h.once,by simp,?_⟩
  intro a ha b hb
  simp only [List.map_cons,List.map_nil,List.mem_singleton] at hb
  subst hb
  obtain ⟨z,hz,rfl⟩:=List.mem_map.1 ha
  exact hne z hz
theorem AJ {α : Type} : ∀ {l : List α},l.Nodup → ∀ {i j : Nat} {a : α},l[i]? = some a → l[j]? = some a → i = j
 | [],_,_,_,_,hi,_=>by simp at hi
 | x :: l,h,i,j,a,hi,hj=>by
  rw [List.nodup_cons] at h
  cases i with
  | zero =>
   cases j with
   | zero=>rfl
   | succ j =>
    simp only [List.getElem?_cons_zero,Option.some.injEq,List.getElem?_cons_succ] at hi hj
    subst hi
    exact (h.1 (List.mem_of_getElem? hj)).elim
  | succ i =>
   cases j with
   | zero =>
    simp only [List.getElem?_cons_zero,Option.some.injEq,List.getElem?_cons_succ] at hi hj
    subst hj
    exact (h.1 (List.mem_of_getElem? hi)).elim
   | succ j =>
    simp only [List.getElem?_cons_succ] at hi hj
    rw [AJ h.2 hi hj]
theorem AK {p : List An} {sw : List Cl} {y : An} (h : Fol p sw) (z : Cl) (hf : Dp (stf p y.Id) y.Kind = true) (hk : y.Kind ≠ 1) (hk0 : y.Kind ≠ 0) (hs : (Jw sw y.Id).isSome = true) (hz : z.s_ = (Kb sw y.Id).s_) (hc : DE z = y.Kind) :
  Fol (p ++ [y]) (sw.set (My sw y.Id) z):=by
 obtain ⟨h1,h2⟩:=Vh hs
 have hst : ∀ id,stf (p ++ [y]) id = if y.Id = id then y.Kind else stf p id:=by
  intro id
  rw [Xi]
  by_cases hi : y.Id = id
  ·subst hi; simp [hf]
  ·simp [hi]
 have hids : ∀ (f : An → ByteArray),(sw.set (My sw y.Id) z).map (fun y=>f y.s_) = sw.map (fun y=>f y.s_):=by
  intro f
  rw [List.map_set]
  have : (sw.map fun y=>f y.s_)[My sw y.Id]? = some (f z.s_):=by rw [List.getElem?_map,h1,hz]; rfl
  obtain ⟨h3,h4⟩:=List.getElem?_eq_some_iff.1 this
  rw [← h4]
  exact List.set_getElem_self h3
 refine ⟨?_,?_,?_,?_⟩
 ·rw [List.map_set,Sn,if_neg (by simp [hk]),← h.steps]
  have : (sw.map fun y=>y.s_)[My sw y.Id]? = some z.s_:=by rw [List.getElem?_map,h1,hz]; rfl
  obtain ⟨h3,h4⟩:=List.getElem?_eq_some_iff.1 this
  rw [← h4]
  exact List.set_getElem_self h3
 ·intro x hx
  rw [hst]
  obtain ⟨i,hi⟩:=List.getElem?_of_mem hx
  rw [List.getElem?_set] at hi
  by_cases hp : My sw y.Id = i
  ·rw [if_pos hp] at hi
   split at hi
   ·cases hi
    rw [hz,h2,if_pos rfl,hc]
   ·cases hi
  ·rw [if_neg hp] at hi
   have hxm : x ∈ sw:=List.mem_of_getElem? hi
   have hne : ¬ y.Id = x.s_.Id:=by
    intro e
    have a1 : (sw.map fun y=>y.s_.Id)[My sw y.Id]? = some y.Id:=by rw [List.getElem?_map,h1]; simp [h2]
    have a2 : (sw.map fun y=>y.s_.Id)[i]? = some y.Id:=by rw [List.getElem?_map,hi]; simp [e]
    exact hp (AJ h.once a1 a2)
   rw [if_neg hne]
   exact h.marks x hxm
 ·intro id
  rw [hst]
  have hfi : (Jw (sw.set (My sw y.Id) z) id).isNone = (Jw sw id).isNone:=by
   have key : ∀ l : List Cl,(Jw l id).isNone = !((l.map fun y=>y.s_.Id).any fun k=>decide (id = k)):=by
    intro l
    unfold Jw
    rw [List.any_map]
    cases hf2 : List.findIdx? (fun s : Cl=>decide (id = s.s_.Id)) l with
    | none =>
     rw [List.findIdx?_eq_none_iff] at hf2
     have : (l.any ((fun k=>decide (id = k)) ∘ fun y=>y.s_.Id)) = false:=List.any_eq_false.2 fun x hx=>by have:=hf2 x hx; simpa using this
     simp [this]
    | some j =>
     obtain ⟨g1,g2,_⟩:=List.findIdx?_eq_some_iff_getElem.1 hf2
     have : (l.any ((fun k=>decide (id = k)) ∘ fun y=>y.s_.Id)) = true:=List.any_eq_true.2 ⟨l[j],List.getElem_mem g1,g2⟩
     simp [this]
   rw [key,key,hids (fun s=>s.Id)]
  rw [hfi,h.known id]
  by_cases hi : y.Id = id
  ·subst hi
   have h3:=h.known y.Id
   have h4 : (Jw sw y.Id).isNone = false:=by cases hh : Jw sw y.Id with
    | none=>rw [hh] at hs; cases hs
    | some j=>rfl
   rw [h4] at h3
   rw [if_pos rfl,← h3]
   simp [hk0]
  ·rw [if_neg hi]
 ·rw [hids (fun s=>s.Id)]; exact h.once
theorem Tr (p : List An) : (Rt p).length ≤ p.length:=Zc _ _ _ _
theorem adj_at {l : List An} (h : Qt l) : ∀ (dn : List An) (y : An) (ys : List An),l = dn ++ y :: ys → ∀ z ∈ ys,y.At ≤ z.At:=by
 have hle : ∀ p q,Cs p q < 0 → p.At ≤ q.At:=by
  intro p q hc
  rw [Rp] at hc
  by_cases h1 : p.At < q.At
  ·omega
  ·by_cases h2 : q.At < p.At
   ·rw [if_neg h1,if_pos h2] at hc; omega
   ·omega
 intro dn y ys
 induction ys generalizing dn y with
 | nil=>intro _ z hz; cases hz
 | cons x ys ih =>
  intro e z hz
  have h1:=hle y x (h dn y x ys e)
  rcases List.mem_cons.1 hz with rfl | hz
  ·exact h1
  ·exact Int.le_trans h1 (ih (dn ++ [y]) x (by rw [e]; simp) z hz)
theorem Oz (l : List An) (hl : l.length ≤ 1000) (hg : ∀ x ∈ l,StG x) (ha : Qt l) (t : Int) : ∀ (ys dn : List An) (sw : List Cl),l = dn ++ ys → (∀ x ∈ dn,x.At ≤ t) → Fol dn sw →
  ∃ sw',Hm t (fun x1 x2=>some (x1,x2)) ys dn.length sw (Uj dn) = some (sw',Uj (upS l t)) ∧ Fol (upS l t) sw'
 | [],dn,sw,h,h1,h2=>by
  rw [List.append_nil] at h
  subst h
  have : upS l t = l:=List.filter_eq_self.2 fun x hx=>decide_eq_true (h1 x hx)
  rw [this]
  exact ⟨sw,rfl,h2⟩
 | y :: ys,dn,sw,h,h1,h2=>by
  have hlen : l.length = dn.length + (ys.length + 1):=by rw [h]; simp
  have hy:=hg y (by rw [h]; simp)
  rw [Hm]
  by_cases ht : t < y.At
  ·rw [if_pos (decide_eq_true ht)]
   have hu : upS l t = dn:=by
    unfold upS
    rw [h,List.filter_append,List.filter_eq_self.2 fun x hx=>decide_eq_true (h1 x hx)]
    have : (y :: ys).filter (fun s=>decide (s.At ≤ t)) = []:=List.filter_eq_nil_iff.2 fun x hx=>by
     have : y.At ≤ x.At:=by
      rcases List.mem_cons.1 hx with rfl | hx
      ·exact Int.le_refl _
      ·exact adj_at ha dn y ys h x hx
     simp
     omega
    rw [this,List.append_nil]
   rw [hu]
   exact ⟨sw,rfl,h2⟩
  ·rw [if_neg (by simpa using ht)]
   simp only [Gs]
   have h1' : ∀ x ∈ dn ++ [y],x.At ≤ t:=fun x hx=>by
    rcases List.mem_append.1 hx with h' | h'
    ·exact h1 x h'
    ·rw [List.mem_singleton] at h'; subst h'; omega
   have hl' : l = (dn ++ [y]) ++ ys:=by rw [h]; simp
   have hlen1 : (dn ++ [y]).length = dn.length + 1:=by simp
   have hswl : sw.length ≤ dn.length:=by
    have:=congrArg List.length h2.steps
    rw [List.length_map] at this
    rw [this]; exact Tr dn
   have hrl : (Uj dn).length ≤ dn.length:=Zc _ _ _ _
   have hkn:=h2.known y.Id
   have hsn : (Jw sw y.Id).isSome = !(Jw sw y.Id).isNone:=by cases Jw sw y.Id <;> rfl
   have hroom : ∀ n : Nat,n ≤ dn.length → Mw n = true:=fun n hn=>by unfold Mw; simp; omega
   -- when the step changes nothing
   have skip : Dp (stf dn y.Id) y.Kind = false → ∃ sw',Chk (Mw (Uj dn).length) (Hm t (fun x1 x2=>some (x1,x2)) ys (dn.length + 1) sw (Uj dn ++ [(dn.length : Int)])) = some (sw',Uj (upS l t)) ∧ Fol (upS l t) sw':=by
    intro hf
    rw [Ho (hroom _ hrl)]
    have:=Oz l hl hg ha t ys (dn ++ [y]) sw hl' h1' (ER h2 hf)
    rw [Sw,if_neg (by simp [hf]),hlen1] at this
    exact this
   by_cases hk1 : y.Kind = 1
   ·cases hn : (Jw sw y.Id).isNone with
    | true =>
     simp only [hk1,decide_true,Bool.and_self,if_true]
     rw [Ho (hroom _ hswl)]
     have h0 : stf dn y.Id = 0:=by rw [hn] at hkn; simpa using hkn.symm
     have:=Oz l hl hg ha t ys (dn ++ [y]) _ hl' h1' (fol_new h2 hk1 hn)
     rw [Sw,if_pos (by simp [Dp,hk1,h0]),hlen1] at this
     exact this
    | false =>
     have h0 : ¬ stf dn y.Id = 0:=by rw [hn] at hkn; simpa using hkn.symm
     simp only [hk1,decide_true,Bool.and_false,Bool.false_eq_true,if_false,show decide ((1 : Int) = 2) = false from rfl,show decide ((1 : Int) = 3) = false from rfl,Bool.false_and]
     exact skip (by simp [Dp,hk1,h0])
   ·simp only [hk1,decide_false,Bool.false_and,Bool.false_eq_true,if_false]
    cases hn : (Jw sw y.Id).isNone with
    | true =>
     have h0 : stf dn y.Id = 0:=by rw [hn] at hkn; simpa using hkn.symm
     rw [hsn,hn]
     simp only [Bool.not_true,Bool.and_false,Bool.false_and,Bool.false_eq_true,if_false]
     refine skip ?_
     unfold Dp
     rw [h0]
     simp [hk1]
    | false =>
     rw [hsn,hn]
     simp only [Bool.not_false,Bool.and_true]
     have hs : (Jw sw y.Id).isSome = true:=by rw [hsn,hn]; rfl
     obtain ⟨g1,g2⟩:=Vh hs
     have hm:=h2.marks _ (List.mem_of_getElem? g1)
     rw [g2] at hm
     have hk23 : y.Kind = 2 ∨ y.Kind = 3:=by unfold StG at hy; omega
     unfold DE at hm
     rcases hk23 with hk | hk
     ·cases hsu : (Kb sw y.Id).sure_ with
      | true =>
       simp only [hk,decide_true,Bool.true_and,Bool.not_true,Bool.false_and,Bool.false_eq_true,if_false,show decide ((2 : Int) = 3) = false from rfl]
       refine skip ?_
       unfold Dp
       rw [← hm,hsu,hk]
       cases (Kb sw y.Id).void_ <;> rfl
      | false =>
       cases hvo : (Kb sw y.Id).void_ with
       | true =>
        simp only [hk,decide_true,Bool.true_and,Bool.not_true,Bool.not_false,Bool.and_false,Bool.false_eq_true,if_false,show decide ((2 : Int) = 3) = false from rfl,Bool.false_and]
        refine skip ?_
        unfold Dp
        rw [← hm,hsu,hk,hvo]
        rfl
       | false =>
        simp only [hk,decide_true,Bool.not_false,Bool.and_self,if_true]
        rw [hsu,hvo] at hm
        simp only [Bool.false_eq_true,if_false] at hm
        have hf : Dp (stf dn y.Id) y.Kind = true:=by unfold Dp; rw [← hm,hk]; rfl
        have:=Oz l hl hg ha t ys (dn ++ [y]) _ hl' h1' (AK h2 (Cl.mk (Kb sw y.Id).s_ true false) hf (by omega) (by omega) hs rfl (by rw [hk]; rfl))
        rw [Sw,if_pos hf,hlen1] at this
        exact this
     ·simp only [hk,show decide ((3 : Int) = 2) = false from rfl,Bool.false_and,Bool.false_eq_true,if_false,decide_true,Bool.true_and]
      cases hvo : (Kb sw y.Id).void_ with
      | true =>
       simp only [Bool.not_true,Bool.false_eq_true,if_false]
       refine skip ?_
       unfold Dp
       rw [← hm,hk,hvo]
       rfl
      | false =>
       simp only [Bool.not_false,if_true]
       rw [hvo] at hm
       simp only [Bool.false_eq_true,if_false] at hm
       have hf : Dp (stf dn y.Id) y.Kind = true:=by
        unfold Dp
        rw [← hm,hk]
        cases (Kb sw y.Id).sure_ <;> rfl
       have:=Oz l hl hg ha t ys (dn ++ [y]) _ hl' h1' (AK h2 (Cl.mk (Kb sw y.Id).s_ (Kb sw y.Id).sure_ true) hf (by omega) (by omega) hs rfl (by rw [hk]; rfl))
       rw [Sw,if_pos hf,hlen1] at this
       exact this
theorem Yi (l : List An) (hl : l.length ≤ 1000) (hg : ∀ x ∈ l,StG x) (ha : Qt l) (t : Int) : ∃ sw,Mz l t = some (sw,Uj (upS l t)) ∧ Fol (upS l t) sw:=by
 have h0 : Fol [] []:=⟨rfl,fun _ h=>(List.not_mem_nil h).elim,fun _=>rfl,List.nodup_nil⟩
 exact Oz l hl hg ha t l [] [] rfl (fun _ h=>(List.not_mem_nil h).elim) h0
end Go.Proofs.YtgfjjiheamdgbaaGreatDoor
namespace Go.Proofs.YtgfjjiheamdgbaaGreatDoor
open Go
end Go.Proofs.YtgfjjiheamdgbaaGreatDoor
namespace Go.Proofs.YtgfjjiheamdgbaaGreatDoor
open Go
theorem ES (j : Int) : ∀ (l : List Int) (i k : Nat),Gq j l i = Gq j l k
 | [],_,_=>rfl
 | a :: l,i,k=>by rw [Gq,Gq,ES j l (i + 1) (k + 1)]
theorem Yj (a : Int) (l : List Int) : Du (a :: l) = if a ≠ 0 then a else Du l:=by
 unfold Du
 simp only [Rk,Gq]
 rw [ES 0 l (0 + 1) 0]
 by_cases h : a = 0 <;> simp [h]
theorem AL : Du [] = 0:=rfl
end Go.Proofs.YtgfjjiheamdgbaaGreatDoor
namespace Go.Proofs.YtgfjjiheamdgbaaGreatDoor
open Go
end Go.Proofs.YtgfjjiheamdgbaaGreatDoor
namespace Go.Proofs.YtgfjjiheamdgbaaGreatDoor
open Go
structure KGood (y : Ef) : Prop where
 key : y.Key ∈ [Mj,Pl,Pm]
 race : y.Race ∈ [Og,Og,Ua]
 clubs : y.Clubs.Sublist [Jc,Mg]
 young : y.Young ∈ [0,0,10]
 old : y.Old ∈ [14,99,150]
section
variable {L : List Int} (hL : Xy L)
include hL
end
end Go.Proofs.YtgfjjiheamdgbaaGreatDoor
namespace Go.Proofs.YtgfjjiheamdgbaaGreatDoor
open Go
theorem Xj (p q : An) : Cs p q < 0 ↔ p.At < q.At ∨ (p.At = q.At ∧ (cB p.Id q.Id < 0 ∨ (p.Id = q.Id ∧ p.Kind < q.Kind))):=by
 rw [Rp]
 rcases BE p.Id q.Id with h | h | h
 ·have hne : p.Id ≠ q.Id:=fun e=>by rw [e,Oc] at h; omega
  simp only [h,hne,false_and,or_false]
  split <;> (try split) <;> (try split) <;> omega
 ·have he : p.Id = q.Id:=Ue h
  simp only [he,Oc,true_and,ne_eq,not_true_eq_false,if_false,Int.lt_irrefl,false_or]
  split <;> (try split) <;> (try split) <;> (try split) <;> (try split) <;> omega
 ·have hne : p.Id ≠ q.Id:=fun e=>by rw [e,Oc] at h; omega
  simp only [h,hne,false_and,or_false]
  split <;> (try split) <;> (try split) <;> omega
theorem Of (p q : An) : Cs p q = 0 ↔ p.At = q.At ∧ p.Id = q.Id ∧ p.Kind = q.Kind:=by
 rw [Rp]
 rcases BE p.Id q.Id with h | h | h
 ·have hne : p.Id ≠ q.Id:=fun e=>by rw [e,Oc] at h; omega
  simp only [h,hne,false_and,and_false,iff_false]
  split <;> (try split) <;> (try split) <;> omega
 ·have he : p.Id = q.Id:=Ue h
  simp only [he,Oc,true_and,ne_eq,not_true_eq_false,if_false,Int.lt_irrefl,false_or]
  split <;> (try split) <;> (try split) <;> (try split) <;> (try split) <;> omega
 ·have hne : p.Id ≠ q.Id:=fun e=>by rw [e,Oc] at h; omega
  simp only [h,hne,false_and,and_false,iff_false]
  split <;> (try split) <;> (try split) <;> omega
theorem Uk (p q : An) : Cs p q < 0 ∨ Cs q p < 0 ∨ (p.At = q.At ∧ p.Id = q.Id ∧ p.Kind = q.Kind):=by
 rw [Xj,Xj]
 have hf:=cB_flip p.Id q.Id
 rcases BE p.Id q.Id with h | h | h
 ·by_cases h1 : p.At < q.At
  ·exact .inl (.inl h1)
  ·by_cases h2 : q.At < p.At
   ·exact .inr (.inl (.inl h2))
   ·exact .inl (.inr ⟨by omega,.inl (by omega)⟩)
 ·have he : p.Id = q.Id:=Ue h
  by_cases h1 : p.At < q.At
  ·exact .inl (.inl h1)
  ·by_cases h2 : q.At < p.At
   ·exact .inr (.inl (.inl h2))
   ·by_cases h3 : p.Kind < q.Kind
    ·exact .inl (.inr ⟨by omega,.inr ⟨he,h3⟩⟩)
    ·by_cases h4 : q.Kind < p.Kind
     ·exact .inr (.inl (.inr ⟨by omega,.inr ⟨he.symm,h4⟩⟩))
     ·exact .inr (.inr ⟨by omega,he,by omega⟩)
 ·by_cases h1 : p.At < q.At
  ·exact .inl (.inl h1)
  ·by_cases h2 : q.At < p.At
   ·exact .inr (.inl (.inl h2))
   ·exact .inr (.inl (.inr ⟨by omega,.inl (by omega)⟩))
theorem Ru (p : An) : ¬ Cs p p < 0:=by
 rw [Xj,Oc]
 omega
theorem Mc {p q r : An} (h1 : Cs p q < 0) (h2 : Cs q r < 0) : Cs p r < 0:=by
 rw [Xj] at *
 rcases h1 with h1 | ⟨a1,h1⟩ <;> rcases h2 with h2 | ⟨a2,h2⟩
 ·exact .inl (by omega)
 ·exact .inl (by omega)
 ·exact .inl (by omega)
 ·refine .inr ⟨by omega,?_⟩
  rcases h1 with h1 | ⟨b1,h1⟩ <;> rcases h2 with h2 | ⟨b2,h2⟩
  ·exact .inl (EG h1 h2)
  ·exact .inl (by rw [← b2]; exact h1)
  ·exact .inl (by rw [b1]; exact h2)
  ·exact .inr ⟨b1.trans b2,by omega⟩
theorem Yk {p q r : An} (h : p.At = q.At ∧ p.Id = q.Id ∧ p.Kind = q.Kind) (h1 : Cs p r < 0) : Cs q r < 0:=by
 rw [Xj] at *
 obtain ⟨a,b,c⟩:=h
 rwa [a,b,c] at h1
theorem Ts {p q r : An} (h1 : ¬ Cs p q < 0) (h2 : ¬ Cs q r < 0) : ¬ Cs p r < 0:=by
 intro h
 rcases Uk p q with h3 | h3 | h3
 ·exact h1 h3
 ·exact h2 (Mc h3 h)
 ·exact h2 (Yk h3 h)
theorem ET {l : List An} (h : ∀ x ∈ l,∀ y ∈ l,(x.At = y.At ∧ x.Id = y.Id ∧ x.Kind = y.Kind) → x = y) : So Cs l :=
 ⟨Ru,fun _ _ _=>Mc,fun _ _ _=>Ts,fun x hx y hy h1 h2=>by
  rcases Uk x y with h3 | h3 | h3
  ·exact absurd h3 h1
  ·exact absurd h3 h2
  ·exact h x hx y hy h3⟩
abbrev Ul (l : List An) : Prop:=l.Pairwise fun p q=>Cs p q < 0
theorem BI : ∀ l : List An,Qt l → Ul l
 | [],_=>List.Pairwise.nil
 | [x],_=>List.pairwise_singleton _ _
 | x :: y :: l,h=>by
  have h1:=BI (y :: l) (fun d p q r e=>h (x :: d) p q r (by rw [e]; rfl))
  have h2:=h [] x y l rfl
  refine List.pairwise_cons.2 ⟨fun z hz=>?_,h1⟩
  rcases List.mem_cons.1 hz with rfl | hz
  ·exact h2
  ·exact Mc h2 ((List.pairwise_cons.1 h1).1 z hz)
theorem EU {l : List An} (h : Ul l) : Qt l:=by
 intro d p q r e
 subst e
 have h1:=(List.pairwise_append.1 h).2.1
 exact (List.pairwise_cons.1 h1).1 q List.mem_cons_self
theorem CI {l : List An} (h : Ul l) : ∀ x ∈ l,∀ y ∈ l,(x.At = y.At ∧ x.Id = y.Id ∧ x.Kind = y.Kind) → x = y:=by
 induction h with
 | nil=>intro x hx; cases hx
 | @cons a l h1 _ ih =>
  intro x hx y hy he
  rcases List.mem_cons.1 hx with rfl | hx'
  ·rcases List.mem_cons.1 hy with rfl | hy'
   ·rfl
   ·have h3:=h1 y hy'
    have h4:=(Of x y).2 he
    omega
  ·rcases List.mem_cons.1 hy with rfl | hy'
   ·have h3:=h1 x hx'
    have h4:=(Of y x).2 ⟨he.1.symm,he.2.1.symm,he.2.2.symm⟩
    omega
   ·exact ih x hx' y hy' he
theorem Xk {l : List An} (h : Ul l) : l.Nodup:=List.Pairwise.imp (fun {a b} h e=>by subst e; exact Ru a h) h
theorem Vi (l : List An) : ∀ (ys : List An) (i : Nat),Er l (some 0) ys i = some 0 → ∀ x ∈ ys,Hl x = some 0
 | [],_,_,x,hx=>by cases hx
 | y :: ys,i,h,x,hx=>by
  obtain ⟨e,e1,_,_⟩:=Yc y
  rw [Er,e1] at h
  simp only [Option.bind_some,Gs] at h
  by_cases he : e = 0
  ·subst he
   simp only [decide_true,Bool.not_true,Bool.false_eq_true,if_false] at h
   have h2 : Er l (some 0) ys (i + 1) = some 0:=by
    by_cases hi : 0 < (i : Int)
    ·simp only [hi,decide_true,if_true] at h
     unfold Chk at h
     split at h
     ·split at h
      ·cases h
      ·exact h
     ·cases h
    ·simp only [hi,decide_false,Bool.false_eq_true,if_false] at h
     exact h
   rcases List.mem_cons.1 hx with rfl | hx
   ·exact e1
   ·exact Vi l ys (i + 1) h2 x hx
  ·simp only [he,decide_false,Bool.not_false,if_true] at h
   exact absurd (Option.some.inj h) he
theorem Vj (l : List An) (hl : l.length ≤ 1000) (hc : ∀ x ∈ l,Hl x = some 0) (ha : Qt l) : ∀ (ys dn : List An),l = dn ++ ys → Er l (some 0) ys dn.length = some 0
 | [],_,_=>rfl
 | y :: ys,dn,h=>by
  have hlen : l.length = dn.length + (ys.length + 1):=by rw [h]; simp
  have ih:=Vj l hl hc ha ys (dn ++ [y]) (by rw [h]; simp)
  rw [List.length_append,List.length_singleton] at ih
  rw [Er,hc y (by rw [h]; simp)]
  simp only [Option.bind_some,Gs,decide_true,Bool.not_true,Bool.false_eq_true,if_false]
  rcases List.eq_nil_or_concat dn with hd | ⟨d,p,hd⟩
  ·subst hd
   simpa using ih
  ·rw [List.concat_eq_append] at hd
   have hdl : dn.length = d.length + 1:=by rw [hd]; simp
   have hn : nth l (W ((dn.length : Int) - 1)) = p:=by
    rw [Hv (by omega) (by omega),h,hd]
    have : d ++ [p] ++ y :: ys = d ++ p :: (y :: ys):=by simp
    rw [this]
    exact Od _ _ _ (by simp)
   have hpos : decide (0 < (dn.length : Int)) = true:=decide_eq_true (by omega)
   have hlt:=ha d p y ys (by rw [h,hd]; simp)
   simp only [hpos,if_true]
   rw [Ho (Fh.2 (by rw [Hv (by omega) (by omega)]; omega)),hn]
   simp only [show ¬ 0 ≤ Cs p y by omega,decide_false,Bool.false_eq_true,if_false]
   exact ih
theorem Qu {l : List An} (h : Ec l = some 0) : l.length ≤ 1000 ∧ (∀ x ∈ l,StG x) ∧ Ul l ∧ ∀ x ∈ l,Hl x = some 0:=by
 obtain ⟨e,e1,_,e3⟩:=Rq l
 have he : e = 0:=by rw [h] at e1; exact (Option.some.inj e1).symm
 obtain ⟨h1,h2,h3⟩:=e3 he
 refine ⟨h1,h2,BI l h3,?_⟩
 unfold Ec at h
 rw [if_neg (by simp; omega)] at h
 exact Vi l l 0 h
theorem AM {l : List An} (hl : l.length ≤ 1000) (hu : Ul l) (hc : ∀ x ∈ l,Hl x = some 0) : Ec l = some 0:=by
 unfold Ec
 rw [if_neg (by simp; omega)]
 exact Vj l hl hc (EU hu) l [] rfl
theorem Yl {x y : List An} (h : y.Sublist x) (hx : Ec x = some 0) : Ec y = some 0:=by
 obtain ⟨h1,_,h3,h4⟩:=Qu hx
 have:=h.length_le
 exact AM (by omega) (List.Pairwise.sublist h h3) fun z hz=>h4 z (h.subset hz)
theorem upS_all {l : List An} {t : Int} (h : ∀ x ∈ l,x.At ≤ t) : upS l t = l:=List.filter_eq_self.2 fun x hx=>decide_eq_true (h x hx)
end Go.Proofs.YtgfjjiheamdgbaaGreatDoor
namespace Go.Proofs.YtgfjjiheamdgbaaGreatDoor
open Go
end Go.Proofs.YtgfjjiheamdgbaaGreatDoor
