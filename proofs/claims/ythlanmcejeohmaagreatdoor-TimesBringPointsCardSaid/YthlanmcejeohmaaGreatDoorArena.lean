/- Blocks that a call makes in a loop and keeps by their places in a list: an arena. No statement of the seat is proved here. -/
import Derived.Test.YthlanmcejeohmaaGreatDoorDeep
namespace Go.Proofs.YthlanmcejeohmaaGreatDoor
open Go
section
variable {α : Type}
def arena (T : TypeId) (enc : α → List Value) : List Nat → List α → List LEnt
 | b :: bs,x :: xs=>.blk b (enc x) T :: arena T enc bs xs
 | _,_=>[]
end
section
variable {w0 : World} {X : List Nat} {φ : View} {L : List LEnt} {K : List (Nat × Value)} {n : Nat} {a : Act} {w : World}
theorem Sx.perm {L' : List LEnt} (S : Sx w0 X φ L K n a w) (h : L.Perm L') : Sx w0 X φ L' K n a w :=
 { S with
  holds:=fun e he=>S.holds e (h.mem_iff.2 he)
  nodup:=(h.filterMap _).nodup_iff.1 S.nodup
  sep:=fun b hb=>S.sep b ((h.filterMap _).mem_iff.2 hb) }
end
section
variable {P : Program} {w0 : World} {X : List Nat} {φ : View} {L : List LEnt} {K : List (Nat × Value)} {n : Nat} {a : Act} {w : World} {ty : TypeId}
end
section
variable {κ : Type} [DecidableEq κ]
section
variable {α : Type} {key : α → κ} {bs : List Nat} {xs : List α} {k : κ} {o : Option Nat}
end
end
section rows
variable {α : Type} {enc : α → List Value} {T k : Nat}
def Ia (T k : Nat) (enc : α → List Value) : List Value → List (List α) → List LEnt
 | v :: vs,xs :: xss=>.own v T k xs.length (xs.flatMap enc) :: Ia T k enc vs xss
 | _,_=>[]
theorem Wf (v : Value) (xs : List α) : ∀ {vs : List Value} {xss : List (List α)},vs.length = xss.length → Ia T k enc (vs ++ [v]) (xss ++ [xs]) = Ia T k enc vs xss ++ [.own v T k xs.length (xs.flatMap enc)]
 | [],[],_=>rfl
 | [],_ :: _,h=>by simp at h
 | _ :: _,[],h=>by simp at h
 | _ :: vs,_ :: xss,h=>by
  simp only [List.length_cons,Nat.add_right_cancel_iff] at h
  simp only [List.cons_append,Ia]
  rw [Wf v xs h]
def rzM {κ : Type} (xs : List (κ × List α)) (vs : List Value) : List (κ × Value):=xs.zipWith (fun e v=>(e.1,v)) vs
section
variable {κ : Type} [DecidableEq κ]
theorem Wg {ν : Type} (q : κ) (u : ν) (m : List (κ × ν)) (key : κ) : Oo ((q,u) :: m) key = if key = q then some u else Oo m key:=by
 have shift : ∀ (m : List (κ × ν)) (i : Nat),(Ip m key i).map (·.2) = (Ip m key 0).map (·.2):=by
  intro m
  induction m with
  | nil=>intro i; rfl
  | cons e m ih =>
   intro i
   obtain ⟨q,u⟩:=e
   by_cases h : key = q
   ·simp [Ip,h]
   ·simp only [Ip,h,if_false]
    rw [ih (i + 1),ih (0 + 1)]
 unfold Oo
 by_cases h : key = q
 ·simp [Ip,h]
 ·simp only [Ip,h,if_false]
  exact shift m _
theorem Zu (key : κ) : ∀ (xs : List (κ × List α)) (vs : List Value),vs.length = xs.length →
  (Oo xs key = none ∧ Oo (rzM xs vs) key = none ∧ ∀ ys v,Fz xs key ys = xs ++ [(key,ys)] ∧ Fz (rzM xs vs) key v = rzM (xs ++ [(key,ys)]) (vs ++ [v])) ∨
  ∃ j v ys,xs[j]? = some (key,ys) ∧ vs[j]? = some v ∧ Oo xs key = some ys ∧ Oo (rzM xs vs) key = some v ∧ ∀ ys' v',Fz xs key ys' = xs.set j (key,ys') ∧ Fz (rzM xs vs) key v' = rzM (xs.set j (key,ys')) (vs.set j v')
 | [],[],_=>.inl ⟨rfl,rfl,fun _ _=>⟨rfl,rfl⟩⟩
 | [],_ :: _,h=>by simp at h
 | _ :: _,[],h=>by simp at h
 | (q,ys) :: xs,v :: vs,h=>by
  simp only [List.length_cons,Nat.add_right_cancel_iff] at h
  have hz : rzM ((q,ys) :: xs) (v :: vs) = (q,v) :: rzM xs vs:=rfl
  rw [hz,Wg,Wg]
  by_cases hk : key = q
  ·subst hk
   exact .inr ⟨0,v,ys,rfl,rfl,by rw [if_pos rfl],by rw [if_pos rfl],fun ys' v'=>⟨by simp [Fz],by simp [Fz,rzM]⟩⟩
  ·rw [if_neg hk,if_neg hk]
   rcases Zu key xs vs h with ⟨h1,h2,h3⟩ | ⟨j,v1,ys1,h1,h2,h3,h4,h5⟩
   ·refine .inl ⟨h1,h2,fun ys' v'=>?_⟩
    obtain ⟨a1,a2⟩:=h3 ys' v'
    exact ⟨by simp [Fz,hk,a1],by simp only [Fz,hk,if_false,a2]; rfl⟩
   ·refine .inr ⟨j + 1,v1,ys1,by simpa using h1,by simpa using h2,h3,h4,fun ys' v'=>?_⟩
    obtain ⟨a1,a2⟩:=h5 ys' v'
    exact ⟨by simp [Fz,hk,a1],by simp only [Fz,hk,if_false,a2]; rfl⟩
end
variable {w0 : World} {X : List Nat} {K : List (Nat × Value)} {n : Nat} {a : Act} {w : World}
theorem Sx.join_rows {φ : View} {F : List LEnt} {v : Value} {xs : List α} {vs : List Value} {xss : List (List α)} (hl : vs.length = xss.length) (S : Sx w0 X φ (.own v T k xs.length (xs.flatMap enc) :: (F ++ Ia T k enc vs xss)) K n a w) :
  Sx w0 X φ (F ++ Ia T k enc (vs ++ [v]) (xss ++ [xs])) K n a w:=by
 rw [Wf v xs hl,← List.append_assoc]
 exact S.perm (List.perm_append_comm (l₁:=[_]) (l₂:=F ++ Ia T k enc vs xss))
theorem Sx.take_row {φ : View} {F : List LEnt} {vs : List Value} {xss : List (List α)} {j : Nat} {v : Value} {ys : List α} (h : vs[j]? = some v) (h2 : xss[j]? = some ys) (S : Sx w0 X φ (F ++ Ia T k enc vs xss) K n a w) :
  Sx w0 X φ (.own v T k ys.length (ys.flatMap enc) :: (F ++ Ia T k enc (vs.set j (.slice none 0 0)) (xss.set j []))) K n a w:=by
 have hset : ∀ {vs : List Value} {xss : List (List α)} {j : Nat} {v : Value} {ys : List α},vs[j]? = some v → xss[j]? = some ys →
   (LEnt.own (.slice none 0 0) T k ([] : List α).length (([] : List α).flatMap enc) :: Ia T k enc vs xss).Perm (.own v T k ys.length (ys.flatMap enc) :: Ia T k enc (vs.set j (.slice none 0 0)) (xss.set j [])):=by
  intro vs
  induction vs with
  | nil=>intro xss j v ys h; simp at h
  | cons u vs ih =>
   intro xss j v ys h h2
   cases xss with
   | nil=>simp at h2
   | cons zs xss =>
    cases j with
    | zero =>
     simp only [List.getElem?_cons_zero,Option.some.injEq] at h h2
     subst h h2
     simp only [List.set_cons_zero,Ia]
     exact List.Perm.swap _ _ _
    | succ j =>
     simp only [List.getElem?_cons_succ] at h h2
     simp only [List.set_cons_succ,Ia]
     exact (List.Perm.swap _ _ _).trans (((ih h h2).cons _).trans (List.Perm.swap _ _ _))
 have S1 : Sx w0 X φ (.own (.slice none 0 0) T k ([] : List α).length (([] : List α).flatMap enc) :: (F ++ Ia T k enc vs xss)) K n a w:=S.nil T k
 refine S1.perm ?_
 have h3:=hset h h2
 refine (List.perm_middle (l₁:=F)).symm.trans (((List.Perm.append_left F h3)).trans ?_)
 exact List.perm_middle (l₁:=F)
theorem Sx.put_row {φ : View} {F : List LEnt} {vs : List Value} {xss : List (List α)} {j : Nat} {v u : Value} {ys zs : List α} (h : vs[j]? = some u) (h2 : xss[j]? = some zs) (S : Sx w0 X φ (.own v T k ys.length (ys.flatMap enc) :: (F ++ Ia T k enc vs xss)) K n a w) :
  Sx w0 X φ (F ++ Ia T k enc (vs.set j v) (xss.set j ys)) K n a w:=by
 have hset : ∀ {vs : List Value} {xss : List (List α)} {j : Nat} {u : Value} {zs : List α},vs[j]? = some u → xss[j]? = some zs →
   ∃ e,(LEnt.own v T k ys.length (ys.flatMap enc) :: Ia T k enc vs xss).Perm (e :: Ia T k enc (vs.set j v) (xss.set j ys)):=by
  intro vs
  induction vs with
  | nil=>intro xss j u zs h; simp at h
  | cons u' vs ih =>
   intro xss j u zs h h2
   cases xss with
   | nil=>simp at h2
   | cons zs' xss =>
    cases j with
    | zero =>
     simp only [List.set_cons_zero,Ia]
     exact ⟨_,List.Perm.swap _ _ _⟩
    | succ j =>
     simp only [List.getElem?_cons_succ] at h h2
     simp only [List.set_cons_succ,Ia]
     obtain ⟨e,he⟩:=ih h h2
     exact ⟨e,(List.Perm.swap _ _ _).trans ((he.cons _).trans (List.Perm.swap _ _ _))⟩
 obtain ⟨e,he⟩:=hset h h2
 have S1 : Sx w0 X φ (e :: (F ++ Ia T k enc (vs.set j v) (xss.set j ys))) K n a w:=by
  refine S.perm ?_
  refine (List.perm_middle (l₁:=F)).symm.trans (((List.Perm.append_left F he)).trans ?_)
  exact List.perm_middle (l₁:=F)
 exact S1.drop (List.sublist_cons_self _ _)
theorem Sx.rows_open {κ : Type} [DecidableEq κ] {φ : View} {F : List LEnt} {xs : List (κ × List α)} {vs : List Value} (hl : vs.length = xs.length) (key : κ) (S : Sx w0 X φ (F ++ Ia T k enc vs (xs.map (·.2))) K n a w) :
  ∃ vs2 xss2,Sx w0 X φ (.own (Gp (rzM xs vs) key (.slice none 0 0)) T k (Gp xs key []).length ((Gp xs key []).flatMap enc) :: (F ++ Ia T k enc vs2 xss2)) K n a w ∧
   ∀ (v' : Value) (ys' : List α),∃ vs3,vs3.length = (Fz xs key ys').length ∧ Fz (rzM xs vs) key v' = rzM (Fz xs key ys') vs3 ∧
    ∀ {φ' : View} {F' : List LEnt} {K' : List (Nat × Value)} {n' : Nat} {a' : Act} {w' : World},Sx w0 X φ' (.own v' T k ys'.length (ys'.flatMap enc) :: (F' ++ Ia T k enc vs2 xss2)) K' n' a' w' → Sx w0 X φ' (F' ++ Ia T k enc vs3 ((Fz xs key ys').map (·.2))) K' n' a' w':=by
 have hlm : vs.length = (xs.map (·.2)).length:=by rw [List.length_map]; exact hl
 rcases Zu key xs vs hl with ⟨h1,h2,h3⟩ | ⟨j,v,ys,h1,h2,h3,h4,h5⟩
 ·refine ⟨vs,xs.map (·.2),?_,fun v' ys'=>⟨vs ++ [v'],?_,?_,fun S'=>?_⟩⟩
  ·have e1 : Gp (rzM xs vs) key (.slice none 0 0) = .slice none 0 0:=by unfold Gp; rw [h2]; rfl
   have e2 : Gp xs key [] = []:=by unfold Gp; rw [h1]; rfl
   rw [e1,e2]
   exact S.nil T k
  ·rw [(h3 ys' v').1,List.length_append,List.length_append,hl]; rfl
  ·rw [(h3 ys' v').2,(h3 ys' v').1]
  ·rw [(h3 ys' v').1,List.map_append]
   exact Sx.join_rows hlm S'
 ·have e1 : Gp (rzM xs vs) key (.slice none 0 0) = v:=by unfold Gp; rw [h4]; rfl
  have e2 : Gp xs key [] = ys:=by unfold Gp; rw [h3]; rfl
  have hx : (xs.map (·.2))[j]? = some ys:=by rw [List.getElem?_map,h1]; rfl
  have hj : j < vs.length:=by
   rcases Nat.lt_or_ge j vs.length with h | h
   ·exact h
   ·rw [List.getElem?_eq_none h] at h2; cases h2
  refine ⟨vs.set j (.slice none 0 0),(xs.map (·.2)).set j [],?_,fun v' ys'=>⟨vs.set j v',?_,?_,fun S'=>?_⟩⟩
  ·rw [e1,e2]
   exact Sx.take_row h2 hx S
  ·rw [(h5 ys' v').1,List.length_set,List.length_set]; exact hl
  ·rw [(h5 ys' v').2,(h5 ys' v').1]
  ·have S2:=Sx.put_row (u:=.slice none 0 0) (zs:=[]) (j:=j) (by rw [List.getElem?_set_self hj]) (by rw [List.getElem?_set_self (by omega)]) S'
   rw [List.set_set,List.set_set] at S2
   rw [(h5 ys' v').1,List.map_set]
   exact S2
end rows
section rzT
variable {κ α : Type}
def rzT : Nat → List (κ × List α) → List Value → List (κ × (Nat × List α × Value))
 | n,e :: xs,v :: vs=>(e.1,(n,e.2,v)) :: rzT (n + 1) xs vs
 | _,_,_=>[]
theorem BK (kv : κ → Value) (n : Nat) (xs : List (κ × List α)) (vs : List Value) : En kv (fun v=>v) (rzM xs vs) = En kv (fun p : Nat × List α × Value=>p.2.2) (rzT n xs vs):=by
 have h : ∀ (xs : List (κ × List α)) (vs : List Value) (n i : Nat),Fp kv (fun v=>v) (rzM xs vs) i = Fp kv (fun p : Nat × List α × Value=>p.2.2) (rzT n xs vs) i:=by
  intro xs
  induction xs with
  | nil=>intro vs n i; cases vs <;> rfl
  | cons x xs ih=>intro vs n i; cases vs with
   | nil=>rfl
   | cons v vs=>exact congrArg _ (ih vs (n + 1) (i + 1))
 exact congrArg List.toArray (h xs vs n 0)
theorem Yy : ∀ (n : Nat) (xs : List (κ × List α)) (vs : List Value),(rzM xs vs).length = (rzT n xs vs).length:=by
 intro n xs
 induction xs generalizing n with
 | nil=>intro vs; cases vs <;> rfl
 | cons x xs ih=>intro vs; cases vs with
  | nil=>rfl
  | cons v vs=>exact congrArg Nat.succ (ih (n + 1) vs)
theorem rzT_map : ∀ (n : Nat) (xs : List (κ × List α)) (vs : List Value),vs.length = xs.length → (rzT n xs vs).map (fun e=>(e.1,e.2.2.1)) = xs:=by
 intro n xs
 induction xs generalizing n with
 | nil=>intro vs h; cases vs <;> rfl
 | cons x xs ih=>intro vs h; cases vs with
  | nil=>simp at h
  | cons v vs=>exact congrArg (x :: ·) (ih (n + 1) vs (by simpa using h))
def Yb (q : List (κ × (Nat × List α × Value))) (vs : List Value) (xss : List (List α)) : Prop:=(q.map (·.2.1)).Nodup ∧ ∀ e ∈ q,vs[e.2.1]? = some e.2.2.2 ∧ xss[e.2.1]? = some e.2.2.1
theorem Yz : ∀ (xs : List (κ × List α)) (vs : List Value) (n : Nat) (e : κ × (Nat × List α × Value)),e ∈ rzT n xs vs → n ≤ e.2.1 ∧ vs[e.2.1 - n]? = some e.2.2.2 ∧ (xs.map (·.2))[e.2.1 - n]? = some e.2.2.1:=by
 intro xs
 induction xs with
 | nil=>intro vs n e h; cases vs <;> simp [rzT] at h
 | cons x xs ih=>intro vs n e h; cases vs with
  | nil=>simp [rzT] at h
  | cons v vs =>
   rw [rzT,List.mem_cons] at h
   rcases h with rfl | h
   ·simp
   ·obtain ⟨h1,h2,h3⟩:=ih vs (n + 1) e h
    have h4 : e.2.1 - n = e.2.1 - (n + 1) + 1:=by omega
    refine ⟨by omega,?_,?_⟩
    ·rw [h4,List.getElem?_cons_succ]; exact h2
    ·rw [h4,List.map_cons,List.getElem?_cons_succ]; exact h3
theorem BL : ∀ (xs : List (κ × List α)) (vs : List Value) (n : Nat),((rzT n xs vs).map (·.2.1)).Nodup:=by
 intro xs
 induction xs with
 | nil=>intro vs n; cases vs <;> simp [rzT]
 | cons x xs ih=>intro vs n; cases vs with
  | nil=>simp [rzT]
  | cons v vs =>
   rw [rzT,List.map_cons,List.nodup_cons]
   refine ⟨fun h=>?_,ih vs (n + 1)⟩
   obtain ⟨e,he,h1⟩:=List.mem_map.1 h
   have:=(Yz xs vs (n + 1) e he).1
   simp only at h1
   omega
theorem rowsI_0 (xs : List (κ × List α)) (vs : List Value) : Yb (rzT 0 xs vs) vs (xs.map (·.2)) :=
 ⟨BL xs vs 0,fun e he=>⟨(Yz xs vs 0 e he).2.1,(Yz xs vs 0 e he).2.2⟩⟩
theorem Yb.step {q q' : List (κ × (Nat × List α × Value))} {y : κ × (Nat × List α × Value)} {vs : List Value} {xss : List (List α)} (h : Yb q vs xss) (hp : q.Perm (y :: q')) (u : Value) (zs : List α) :
  vs[y.2.1]? = some y.2.2.2 ∧ xss[y.2.1]? = some y.2.2.1 ∧ Yb q' (vs.set y.2.1 u) (xss.set y.2.1 zs):=by
 obtain ⟨h1,h2⟩:=h
 have h3:=(hp.map (fun e : κ × (Nat × List α × Value)=>e.2.1)).nodup_iff.1 h1
 rw [List.map_cons,List.nodup_cons] at h3
 have hy:=h2 y (hp.mem_iff.2 (List.mem_cons_self ..))
 refine ⟨hy.1,hy.2,h3.2,fun e he=>?_⟩
 have h4 : y.2.1 ≠ e.2.1:=fun h5=>h3.1 (by rw [h5]; exact List.mem_map_of_mem he)
 have h6:=h2 e (hp.mem_iff.2 (List.mem_cons_of_mem _ he))
 rw [List.getElem?_set_ne h4,List.getElem?_set_ne h4]
 exact h6
theorem CZ {xs : List α} {h : Int} {j : Nat} {y : α} (k : (cut xs 0 h)[j]? = some y) : xs[j]? = some y ∧ j < h.toNat:=by
 unfold cut at k
 rw [show (0 : Int).toNat = 0 from rfl,List.drop_zero,List.getElem?_take] at k
 split at k
 ·exact ⟨k,by assumption⟩
 ·cases k
end rzT
end Go.Proofs.YthlanmcejeohmaaGreatDoor
