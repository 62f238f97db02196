/- The plain law of DeedsMerge. No program stands here but its twins. -/
import Derived.Test.YtcmlfgcnichcdaaGreatDoorPDeedMerge
namespace Go.Proofs.YtcmlfgcnichcdaaGreatDoor
open Go
def BD (d : An) : Prop:=(0 ≤ d.No ∧ d.No ≤ 1000000) ∧ (0 ≤ d.At ∧ d.At < 345686400000)
theorem DG.bd {d : An} (h : DG d) : BD d:=⟨by have:=h.no; omega,h.at_⟩
theorem CB : BD default:=⟨⟨Int.le_refl _,by decide⟩,Int.le_refl _,by decide⟩
theorem CC (p q : An) (hp : BD p) (hq : BD q) : Ea p q = Ex p q:=by
 rw [Xq]
 have a1:=hp.1
 have a2:=hp.2
 have b1:=hq.1
 have b2:=hq.2
 unfold Ea Lg
 have hc : Gi p.Site q.Site = cB p.Site q.Site:=rfl
 have hW1 : W (p.At - q.At) = p.At - q.At:=Oh (by omega) (by omega)
 have hW2 : W (p.No - q.No) = p.No - q.No:=Oh (by omega) (by omega)
 rw [hc,hW1,hW2]
 simp only [decide_eq_true_eq,Bool.not_eq_true',decide_eq_false_iff_not]
 by_cases h1 : p.At = q.At
 ·rw [if_neg (fun h=>h h1),if_neg (show ¬ p.At < q.At by omega),if_neg (show ¬ q.At < p.At by omega)]
  by_cases h2 : p.Site = q.Site
  ·simp only [h2,Sm,not_true_eq_false,if_false,ne_eq]
   split <;> split <;> (try split) <;> (try split) <;> omega
  ·rw [if_pos h2,if_pos (fun e=>h2 (Ve e))]
 ·rw [if_pos h1]
  split <;> split <;> (try split) <;> (try split) <;> omega
theorem triD (a b : An) : ltD a b = true ∨ ltD b a = true ∨ (a.At = b.At ∧ a.Site = b.Site ∧ a.No = b.No):=by
 cases h : ltD b a with
 | true=>exact .inr (.inl rfl)
 | false =>
  by_cases hp : Cx a = Cx b
  ·have e1 : a.Site = b.Site:=congrArg Cz.site_ hp
   have e2 : a.No = b.No:=congrArg Cz.no_ hp
   by_cases h1 : a.At < b.At
   ·exact .inl (Pq a b |>.2 (.inl h1))
   ·by_cases h2 : b.At < a.At
    ·have : ltD b a = true:=(Pq b a).2 (.inl h2)
     rw [h] at this; cases this
    ·exact .inr (.inr ⟨by omega,e1,e2⟩)
  ·exact .inl (ltD_tot h hp)
theorem ltD_eqR {a b c : An} (h : a.At = b.At ∧ a.Site = b.Site ∧ a.No = b.No) : ltD c a = ltD c b ∧ ltD a c = ltD b c:=by
 have e : ∀ x y : Bool,(x = true ↔ y = true) → x = y:=by decide
 constructor
 ·apply e; rw [Pq,Pq,h.1,h.2.1,h.2.2]
 ·apply e; rw [Pq,Pq,h.1,h.2.1,h.2.2]
theorem nltD {x y : An} (h : ¬ Ex x y < 0) : ltD x y = false:=by
 unfold ltD; exact decide_eq_false h
theorem CD {x y : An} : ltD x y = true ↔ Ex x y < 0:=by unfold ltD; exact decide_eq_true_iff
theorem CE {x y z : An} (h1 : ltD x y = false) (h2 : ltD y z = false) : ltD x z = false:=by
 cases h : ltD x z with
 | false=>rfl
 | true =>
  exfalso
  have i1 : ltD y x = true ∨ (x.At = y.At ∧ x.Site = y.Site ∧ x.No = y.No):=by
   rcases triD x y with h3 | h3 | h3
   ·rw [h1] at h3; cases h3
   ·exact .inl h3
   ·exact .inr h3
  have i2 : ltD z y = true ∨ (y.At = z.At ∧ y.Site = z.Site ∧ y.No = z.No):=by
   rcases triD y z with h3 | h3 | h3
   ·rw [h2] at h3; cases h3
   ·exact .inl h3
   ·exact .inr h3
  rcases i1 with i1 | i1
  ·have h4:=Wa _ _ _ i1 h
   rw [h2] at h4; cases h4
  ·rw [(ltD_eqR i1).2] at h
   rw [h2] at h; cases h
theorem EJ {l : List An} (hn : (l.map Cx).Nodup) : ∀ a ∈ l,∀ b ∈ l,Cx a = Cx b → a = b:=by
 intro a ha b hb he
 obtain ⟨d1,d2,e1⟩:=List.append_of_mem ha
 rw [e1,List.map_append,List.map_cons,List.nodup_append] at hn
 rw [e1] at hb
 rcases List.mem_append.1 hb with hb | hb
 ·exact absurd he.symm (hn.2.2 _ (List.mem_map_of_mem hb) _ (by simp))
 ·rcases List.mem_cons.1 hb with rfl | hb
  ·rfl
  ·have:=(List.nodup_cons.1 hn.2.1).1
   exact absurd (he ▸ List.mem_map_of_mem hb) this
theorem BC {l : List An} (hn : (l.map Cx).Nodup) : Sy Ex l:=by
 refine ⟨fun x _ h=>?_,fun x _ y _ z _ h1 h2=>?_,fun x _ y _ z _ h1 h2 h=>?_,fun x hx y hy h1 h2=>?_⟩
 ·have:=CD.2 h; rw [ltD_irr] at this; cases this
 ·exact CD.1 (Wa _ _ _ (CD.2 h1) (CD.2 h2))
 ·have:=CE (nltD h1) (nltD h2)
  rw [CD.2 h] at this; cases this
 ·refine EJ hn x hx y hy ?_
  rcases triD x y with h | h | ⟨_,h3,h4⟩
  ·exact absurd (CD.1 h) h1
  ·exact absurd (CD.1 h) h2
  ·unfold Cx; rw [h3,h4]
theorem FP {l : List An} (hb : ∀ d ∈ l,BD d) (hn : (l.map Cx).Nodup) : Sy Ea l:=by
 have hb' : ∀ d ∈ default :: l,BD d:=fun d hd=>by
  rcases List.mem_cons.1 hd with rfl | hd
  ·exact CB
  ·exact hb d hd
 have e : ∀ x ∈ default :: l,∀ y ∈ default :: l,Ea x y = Ex x y:=fun x hx y hy=>CC x y (hb' x hx) (hb' y hy)
 obtain ⟨g1,g2,g3,g4⟩:=BC hn
 refine ⟨fun x hx=>by rw [e x hx x hx]; exact g1 x hx,fun x hx y hy z hz=>by rw [e x hx y hy,e y hy z hz,e x hx z hz]; exact g2 x hx y hy z hz,fun x hx y hy z hz=>by rw [e x hx y hy,e y hy z hz,e x hx z hz]; exact g3 x hx y hy z hz,fun x hx y hy=>?_⟩
 rw [e x (List.mem_cons_of_mem _ hx) y (List.mem_cons_of_mem _ hy),e y (List.mem_cons_of_mem _ hy) x (List.mem_cons_of_mem _ hx)]
 exact g4 x hx y hy
theorem BE {l : List An} (hb : ∀ d ∈ l,BD d) : Ir Ea l = Ir Ex l:=by
 unfold Ir
 have:=List.map_mergeSort (f:=fun x : An=>x) (l:=l) (r:=fun x y=>!decide (Ea y x < 0)) (s:=fun x y=>!decide (Ex y x < 0)) fun a ha b hb'=>by rw [CC b a (hb b hb') (hb a ha)]
 rwa [List.map_id',List.map_id'] at this
theorem CF {l : List An} (hb : ∀ d ∈ l,BD d) (hn : (l.map Cx).Nodup) (hl : l.length ≤ 1000000) : Fx l = some (Ir Ex l) ∧ Ft l = some (Ir Ex l):=by
 unfold Fx Ft
 rw [if_pos ⟨BC hn,by omega⟩,if_pos ⟨FP hb hn,by omega⟩,BE hb]
 exact ⟨rfl,rfl⟩
theorem FQ (y : An) : ∀ (l : List An) (i : Nat),(Dq y (-1) l i = -1 ∧ ∀ s ∈ l,Cx s ≠ Cx y) ∨ ∃ k : Nat,k < l.length ∧ Dq y (-1) l i = ((i + k : Nat) : Int) ∧ ∃ s ∈ l,l[k]? = some s ∧ Cx s = Cx y
 | [],_=>.inl ⟨rfl,fun _ h=>by cases h⟩
 | x :: l,i=>by
  rw [Dq]
  have hc : Ky x y = decide (Cx x = Cx y):=by
   unfold Ky Ls Cx
   rw [← Bool.decide_and]
   apply decide_eq_decide.2
   simp
  rw [hc]
  by_cases hx : Cx x = Cx y
  ·rw [if_pos (decide_eq_true hx)]
   exact .inr ⟨0,by simp,by simp,x,List.mem_cons_self,rfl,hx⟩
  ·rw [if_neg (by simpa using hx)]
   rcases FQ y l (i + 1) with ⟨h1,h2⟩ | ⟨k,h1,h2,z,h3,h4,h5⟩
   ·refine .inl ⟨h1,fun z hz=>?_⟩
    rcases List.mem_cons.1 hz with rfl | hz
    ·exact hx
    ·exact h2 z hz
   ·exact .inr ⟨k + 1,by simp; omega,by rw [h2]; congr 1; omega,z,List.mem_cons_of_mem _ h3,by simpa using h4,h5⟩
theorem BF (a b : List An) (hb : (b.map Cx).Nodup) (m : List (Cz × An)) (m1 : ∀ s ∈ a,Nv m (Cx s) = some s) (m2 : ∀ e,(Nv m e).isSome = true → ∃ s ∈ a,Cx s = e)
  (j j' : List An → Option (List An × Int)) : ∀ (ys dn : List An) (i : Nat) (o : List An),b = dn ++ ys → (∀ s ∈ o,s ∈ a ∨ s ∈ dn) → (∀ s ∈ a,s ∈ o) → (o.map Cx).Nodup → o.length + ys.length ≤ 1000000 →
  (Hm m j ys i o = some ([],13) ∧ Fv j' ys i o = some ([],13)) ∨ ∃ o',Hm m j ys i o = j o' ∧ Fv j' ys i o = j' o' ∧ (o'.map Cx).Nodup ∧ (∀ s ∈ o',s ∈ a ∨ s ∈ b) ∧ o'.length ≤ o.length + ys.length
 | [],dn,i,o,hd,h1,h2,h3,_=>.inr ⟨o,by rw [Hm],by rw [Fv],h3,by rw [hd,List.append_nil]; exact h1,by simp⟩
 | y :: ys,dn,i,o,hd,h1,h2,h3,hl=>by
  simp only [List.length_cons] at hl ⊢
  have hr : Px o.length = true:=by unfold Px; exact decide_eq_true (by omega)
  have hdn : ∀ s ∈ dn,Cx s ≠ Cx y:=fun s hs e=>by
   rw [hd,List.map_append,List.map_cons,List.nodup_append] at hb
   exact hb.2.2 _ (List.mem_map_of_mem hs) _ List.mem_cons_self e
  have next : ∀ o',(∀ s ∈ o',s ∈ a ∨ s ∈ dn ++ [y]) → (∀ s ∈ a,s ∈ o') → (o'.map Cx).Nodup → o'.length ≤ o.length + 1 →
    (Hm m j ys (i + 1) o' = some ([],13) ∧ Fv j' ys (i + 1) o' = some ([],13)) ∨ ∃ o2,Hm m j ys (i + 1) o' = j o2 ∧ Fv j' ys (i + 1) o' = j' o2 ∧ (o2.map Cx).Nodup ∧ (∀ s ∈ o2,s ∈ a ∨ s ∈ b) ∧ o2.length ≤ o.length + (ys.length + 1):=fun o' k1 k2 k3 k4=>by
   rcases BF a b hb m m1 m2 j j' ys (dn ++ [y]) (i + 1) o' (by rw [hd]; simp) k1 k2 k3 (by omega) with h | ⟨o2,q1,q2,q3,q4,q5⟩
   ·exact .inl h
   ·exact .inr ⟨o2,q1,q2,q3,q4,by omega⟩
  rw [Hm,Fv]
  simp only [Mp]
  generalize he : Dy o y = q
  unfold Dy at he
  rw [Mp] at he
  rcases FQ y o 0 with ⟨e,hn⟩ | ⟨k,hk,e,s,hs,hs1,hs2⟩
  ·rw [e] at he
   subst he
   have hg : (Nv m (Cx y)).isSome = false:=by
    cases hx : (Nv m (Cx y)).isSome with
    | false=>rfl
    | true =>
     obtain ⟨s,hs,hse⟩:=m2 _ hx
     exact absurd hse (hn s (h2 s hs))
   have hm1 : decide ((-1 : Int) < 0) = true:=by decide
   simp only [hg,hm1,Gm hr,Bool.false_and,Bool.false_eq_true,if_false,Bool.not_false,if_true]
   refine next (o ++ [y]) (fun s hs=>?_) (fun s hs=>List.mem_append_left _ (h2 s hs)) ?_ (by simp)
   ·rcases List.mem_append.1 hs with hs | hs
    ·exact (h1 s hs).imp id (List.mem_append_left _)
    ·exact .inr (List.mem_append_right _ hs)
   ·rw [List.map_append,List.nodup_append]
    refine ⟨h3,by simp,fun u hu v hv=>?_⟩
    obtain ⟨s,hs,rfl⟩:=List.mem_map.1 hu
    simp only [List.map_cons,List.map_nil,List.mem_singleton] at hv
    rw [hv]
    exact hn s hs
  ·rw [e,Nat.zero_add] at he
   subst he
   have hsa : s ∈ a:=(h1 s hs).resolve_right fun h=>hdn s h hs2
   have hg : Nv m (Cx y) = some s:=by rw [← hs2]; exact m1 s hsa
   have hnth : nth o (k : Int) = s:=by unfold nth; simp [List.getD,hs1]
   have hd2 : Dw m (Cx y) (An.mk Cw 0 0 0 Cw Cw Cw 0 0 Cw 0) = s:=by unfold Dw; rw [hg]; rfl
   have hk0 : decide ((k : Int) < 0) = false:=decide_eq_false (by omega)
   have hki : inB (k : Int) o.length = true:=Ju.2 (by omega)
   by_cases hys : y = s
   ·have d1 : decide (y = s) = true:=decide_eq_true hys
    have d2 : decide (s = y) = true:=decide_eq_true hys.symm
    simp only [hg,hd2,hk0,hnth,d1,d2,Gm hki,Option.isSome_some,Bool.true_and,Bool.not_true,Bool.false_eq_true,if_false]
    exact next o (fun s hs=>(h1 s hs).imp id (List.mem_append_left _)) h2 h3 (by omega)
   ·have d1 : decide (y = s) = false:=decide_eq_false hys
    have d2 : decide (s = y) = false:=decide_eq_false fun e=>hys e.symm
    simp only [hg,hd2,hk0,hnth,d1,d2,Gm hki,Option.isSome_some,Bool.true_and,Bool.not_false,Bool.false_eq_true,if_false,if_true]
    first | exact .inl ⟨rfl,rfl⟩ | exact .inl ⟨trivial,trivial⟩
theorem CG {a b : List An} (ha : DsG a) (hb : DsG b) (la : a.length ≤ 500) (lb : b.length ≤ 500) : ∃ r,Mt a b = some r ∧ Km a b = some r:=by
 have hcl : Fh a = some a:=by
  unfold Fh
  rw [Gm (decide_eq_true (by simp; omega)),List.nil_append]
 obtain ⟨m,e,g1,g2⟩:=BB (fun x1=>Option.bind (Fh a) (fun r3=>Hm x1 (fun (x2 : List An)=>if decide (2000 < (x2.length : Int)) then some (([] : List An),2) else Option.bind (Fx x2) (fun r4=>some (r4,0))) b 0 r3))
  a [] 0 [] (by simpa using ha.nodup) (by simp) (by simp [Nv,Jw])
 rw [List.nil_append] at g1 g2
 unfold Mt Km
 rw [ha.chk,hb.chk,hcl]
 simp only [Option.bind_some,decide_true,Bool.not_true,Bool.false_eq_true,if_false,Mp]
 rw [hcl] at e
 simp only [Option.bind_some] at e
 rw [e]
 rcases BF a b hb.nodup m g1 g2 (fun (x2 : List An)=>if decide (2000 < (x2.length : Int)) then some (([] : List An),2) else Option.bind (Fx x2) (fun r4=>some (r4,0))) (fun (x1 : List An)=>Option.bind (Ft x1) (fun r2=>if decide (2000 < (r2.length : Int)) then some (([] : List An),2) else some (r2,0))) b [] 0 a rfl (fun s hs=>.inl hs) (fun s hs=>hs) ha.nodup (by omega) with ⟨h1,h2⟩ | ⟨o,h1,h2,h3,h4,h5⟩
 ·exact ⟨_,h1,h2⟩
 ·rw [h1,h2]
  have hbd : ∀ d ∈ o,BD d:=fun d hd=>(h4 d hd).elim (fun h=>(ha.each d h).bd) fun h=>(hb.each d h).bd
  obtain ⟨s1,s2⟩:=CF hbd h3 (by omega)
  have hlen : (Ir Ex o).length = o.length:=List.length_mergeSort _
  rw [s1,s2]
  simp only [Option.bind_some]
  rw [if_neg (by simp only [decide_eq_true_eq]; omega),if_neg (by simp only [decide_eq_true_eq]; rw [hlen]; omega)]
  exact ⟨_,rfl,rfl⟩
theorem Ul (x : An) (j : Int → Option (List An × Int)) : ∀ (ys : List An) (i : Nat) (n : Int),Jy x j ys i n = Fy x j ys i n
 | [],_,_=>rfl
 | y :: ys,i,n=>by
  rw [Jy,Fy]
  simp only [Mp]
  split
  ·exact Ul x j ys (i + 1) _
  ·exact Ul x j ys (i + 1) _
theorem AD (x : An) : ∀ (ys : List An) (i : Nat) (n : Int),∃ k,∀ j : Int → Option (List An × Int),Fy x j ys i n = j k
 | [],_,n=>⟨n,fun _=>rfl⟩
 | y :: ys,i,n=>by
  simp only [Fy,Mp]
  split
  ·exact AD x ys (i + 1) _
  ·exact AD x ys (i + 1) _
theorem CH {l : List An} (h : DsG l) (hl : l.length ≤ 1000) (x : An) : ∃ r,Nn l x = some r ∧ Kn l x = some r:=by
 unfold Nn Kn
 rw [h.chk]
 simp only [Option.bind_some,decide_true,Bool.not_true,Bool.false_eq_true,if_false]
 by_cases hn : x.No = 0
 ·rw [if_neg (by simp [hn]),if_neg (by simp [hn])]
  simp only [Mp]
  rw [Ul]
  have key : ∀ k : Int,∃ r,(Option.bind (Kb (An.mk x.Site (W (k + 1)) x.At x.Kind x.Who x.Club x.Race x.Time x.Fault x.Of x.Other)) (fun r2 =>
    if (!decide (r2 = 0)) = true then some (([] : List An),r2) else
    if decide (0 < (l.length : Int)) = true then
     Chk (inB (W ((l.length : Int) - 1)) l.length) (if decide (0 ≤ (Ex (nth l (W ((l.length : Int) - 1))) (An.mk x.Site (W (k + 1)) x.At x.Kind x.Who x.Club x.Race x.Time x.Fault x.Of x.Other))) = true then some (([] : List An),7) else if decide (2000 ≤ (l.length : Int)) = true then some (([] : List An),2) else Option.bind (Fh l) (fun r3=>Chk (Px r3.length) (some (r3 ++ [An.mk x.Site (W (k + 1)) x.At x.Kind x.Who x.Club x.Race x.Time x.Fault x.Of x.Other],0))))
    else if false = true then some (([] : List An),7) else if decide (2000 ≤ (l.length : Int)) = true then some (([] : List An),2) else Option.bind (Fh l) (fun r3=>Chk (Px r3.length) (some (r3 ++ [An.mk x.Site (W (k + 1)) x.At x.Kind x.Who x.Club x.Race x.Time x.Fault x.Of x.Other],0)))) : Option (List An × Int)) = some r ∧
    (Option.bind (Jr (An.mk x.Site (W (k + 1)) x.At x.Kind x.Who x.Club x.Race x.Time x.Fault x.Of x.Other)) (fun r2 =>
    if (!decide (r2 = 0)) = true then some (([] : List An),r2) else
    if decide (0 < (l.length : Int)) = true then
     Chk (inB (W ((l.length : Int) - 1)) l.length) (if decide (0 ≤ (Ea (nth l (W ((l.length : Int) - 1))) (An.mk x.Site (W (k + 1)) x.At x.Kind x.Who x.Club x.Race x.Time x.Fault x.Of x.Other))) = true then some (([] : List An),7) else if decide ((l.length : Int) = 2000) = true then some (([] : List An),2) else Option.bind (Fh l) (fun r3=>Chk (Px r3.length) (some (r3 ++ [An.mk x.Site (W (k + 1)) x.At x.Kind x.Who x.Club x.Race x.Time x.Fault x.Of x.Other],0))))
    else if false = true then some (([] : List An),7) else if decide ((l.length : Int) = 2000) = true then some (([] : List An),2) else Option.bind (Fh l) (fun r3=>Chk (Px r3.length) (some (r3 ++ [An.mk x.Site (W (k + 1)) x.At x.Kind x.Who x.Club x.Race x.Time x.Fault x.Of x.Other],0)))) : Option (List An × Int)) = some r:=by
   intro k
   generalize An.mk x.Site (W (k + 1)) x.At x.Kind x.Who x.Club x.Race x.Time x.Fault x.Of x.Other = z
   obtain ⟨e,c1,c2,c3⟩:=Yx z
   have hcl : Fh l = some l:=by
    unfold Fh
    rw [Gm (decide_eq_true (by simp; omega)),List.nil_append]
   have hroom : Px l.length = true:=by unfold Px; exact decide_eq_true (by omega)
   rw [c1,c2,hcl]
   simp only [Option.bind_some,Gm hroom]
   have f1 : decide (2000 ≤ (l.length : Int)) = false:=decide_eq_false (by omega)
   have f2 : decide ((l.length : Int) = 2000) = false:=decide_eq_false (by omega)
   by_cases he : e = 0
   ·have hz:=c3 he
    have he' : decide (e = 0) = true:=decide_eq_true he
    simp only [he',f1,f2,Bool.not_true,Bool.false_eq_true,if_false]
    by_cases h0 : (0 : Int) < (l.length : Int)
    ·have h0' : decide ((0 : Int) < (l.length : Int)) = true:=decide_eq_true h0
     have hi : inB (W ((l.length : Int) - 1)) l.length = true:=by
      rw [Oh (by omega) (by omega)]; exact Ju.2 (by omega)
     have hm : nth l (W ((l.length : Int) - 1)) ∈ l:=List.mem_of_getElem? (Dg hi).1
     simp only [h0',if_true,Gm hi,CC _ z (h.each _ hm).bd hz.bd]
     split <;> exact ⟨_,rfl,rfl⟩
    ·have h0' : decide ((0 : Int) < (l.length : Int)) = false:=decide_eq_false h0
     simp only [h0',Bool.false_eq_true,if_false]
     exact ⟨_,rfl,rfl⟩
   ·have he' : decide (e = 0) = false:=decide_eq_false he
    simp only [he',Bool.not_false,if_true]
    exact ⟨_,rfl,rfl⟩
  obtain ⟨k,e1⟩:=AD x l 0 x.No
  rw [e1,e1]
  exact key k
 ·rw [if_pos (by simpa using hn),if_pos (by simpa using hn)]
  exact ⟨_,rfl,rfl⟩
end Go.Proofs.YtcmlfgcnichcdaaGreatDoor
namespace Go.Proofs.YtcmlfgcnichcdaaGreatDoor
open Go
def ltW (x y : An) : Bool:=decide (Jt x y < 0)
theorem EK (l : List An) (hl : l.length ≤ 12) : Fi l 0 (l.length : Int) = some (Sr ltW l):=by
 unfold Fi
 simp only [Mp]
 have hins : ∀ (k : List An → Option (List An)) (rp : List An) (x : An) (post : List An),((rp ++ x :: post).length : Int) = (l.length : Int) → (∀ y,y ∈ rp ∨ y = x ∨ y ∈ post → y ∈ (rp ++ x :: post)) →
   Di 0 k (((rp.length : Int) - 0).toNat + 2) (rp.reverse ++ x :: post) (rp.length : Int) = k ((Ry ltW x rp).reverse ++ post):=by
  intro k rp x post h1 _
  exact FK (fun x y k=>k (ltW x y)) ltW k (Di 0 k) (fun _ _ _=>rfl) rp x post _ (by omega) (by simp at h1; omega) fun y _ k'=>rfl
 cases l with
 | nil=>rfl
 | cons x l =>
  have hw : W (0 + 1) = (([x] : List An).length : Int):=rfl
  rw [hw]
  exact AC ltW (fun x=>some x) (fun k x i=>Di 0 k ((i - 0).toNat + 2) x i) (Ds ((x :: l).length : Int) 0 fun x=>some x) ((x :: l).length : Int) (fun _ _ _=>rfl)
   (fun k rp x post h1 h2=>hins k rp x post h1 h2) l [x] _ (by simp only [List.length_cons,List.length_nil]; omega) (by simp only [List.length_cons,List.length_nil]; omega) (by simp only [List.length_cons,List.length_nil] at hl ⊢; omega)
theorem FR (l : List An) (hl : l.length ≤ 12) : Gp l = some (Sr ltW l):=by
 unfold Gp
 obtain ⟨r,hr⟩:=Option.isSome_iff_exists.1 (len_d ⟨l.length,by omega⟩)
 simp only at hr
 rw [hr]
 simp only [Option.bind_some]
 unfold Gx
 rw [show (4611686018427387904 : Nat) = 4611686018427387903 + 1 from rfl,Ee,Oh (by omega) (by omega),if_pos (decide_eq_true (by omega)),EK l hl]
 rfl
theorem AE (x y : An) : ltW x y = decide (cB x.Who y.Who < 0):=rfl
theorem ltW_irr (x : An) : ltW x x = false:=by rw [AE,Sm]; rfl
theorem Zb (x y z : An) (h1 : ltW x y = true) (h2 : ltW y z = true) : ltW x z = true:=by
 rw [AE,decide_eq_true_eq] at *; exact AY h1 h2
theorem DI {l : List An} (h : (l.map (·.Who)).Nodup) : l.Pairwise fun a b=>ltW b a = false → ltW a b = true:=by
 refine (List.pairwise_map.1 h).imp fun {a b} hne hb=>?_
 rw [AE,decide_eq_false_iff_not] at hb
 rw [AE,decide_eq_true_eq]
 have h0 : cB a.Who b.Who ≠ 0:=fun e=>hne (Ve e)
 have:=DE a.Who b.Who
 omega
end Go.Proofs.YtcmlfgcnichcdaaGreatDoor
namespace Go.Proofs.YtcmlfgcnichcdaaGreatDoor
open Go
theorem DJ (P : List Int) (v : Int) (Q : List Int) : nth (P ++ v :: Q) (P.length : Int) = v:=by unfold nth; simp
theorem DK (P : List Int) (v u : Int) (Q : List Int) : (P ++ v :: Q).set P.length u = P ++ u :: Q:=by simp
theorem rev_l (j : List Int → Option (List Int)) : ∀ (k m : Nat) (A M B : List Int),M.length ≤ k → M.length < m → A.length + M.length + B.length ≤ 1000000 →
  Gq j m (A ++ (M ++ B)) (A.length : Int) ((A.length : Int) + (M.length : Int) - 1) = j (A ++ (M.reverse ++ B))
 | k,0,A,M,B,_,h,_=>by omega
 | k,m + 1,A,M,B,hk,hm,hl=>by
  rw [Gq]
  match M,hk,hm,hl with
  | [],_,_,_=>rw [if_neg (by simp; omega)]; rfl
  | [z],_,_,_=>rw [if_neg (by simp)]; rfl
  | a :: z :: M1,hk,hm,hl =>
   obtain ⟨M2,b,hM⟩ : ∃ M2 b,z :: M1 = M2 ++ [b]:=by
    rcases List.eq_nil_or_concat (z :: M1) with h | ⟨M2,b,h⟩
    ·cases h
    ·exact ⟨M2,b,by rw [h]; simp⟩
   rw [hM] at hk hm hl ⊢
   simp only [List.length_cons,List.length_append,List.length_nil] at hk hm hl ⊢
   have hlen : (A ++ (a :: (M2 ++ [b]) ++ B)).length = A.length + M2.length + 2 + B.length:=by simp; omega
   have e3 : (A.length : Int) + ((M2.length + (0 + 1) + 1 : Nat) : Int) - 1 = ((A.length + M2.length + 1 : Nat) : Int):=by omega
   rw [e3,if_pos (decide_eq_true (by omega))]
   have n2 : nth (A ++ (a :: (M2 ++ [b]) ++ B)) (A.length : Int) = a:=by rw [List.cons_append]; exact DJ _ _ _
   have h1 : A ++ (a :: (M2 ++ [b]) ++ B) = (A ++ a :: M2) ++ b :: B:=by simp
   have h2 : (A ++ a :: M2).length = A.length + M2.length + 1:=by simp; omega
   have n3 : nth (A ++ (a :: (M2 ++ [b]) ++ B)) ((A.length + M2.length + 1 : Nat) : Int) = b:=by
    rw [h1,← h2]; exact DJ _ _ _
   have hs : ((A ++ (a :: (M2 ++ [b]) ++ B)).set ((A.length : Int)).toNat b).set (((A.length + M2.length + 1 : Nat) : Int)).toNat a = (A ++ [b]) ++ (M2 ++ (a :: B)):=by
    rw [Int.toNat_natCast,Int.toNat_natCast]
    have q1 : (A ++ (a :: (M2 ++ [b]) ++ B)).set A.length b = (A ++ b :: M2) ++ b :: B:=by
     rw [List.cons_append,DK]; simp
    have q2 : (A ++ b :: M2).length = A.length + M2.length + 1:=by simp; omega
    rw [q1,← q2,DK]
    simp
   rw [Gm (Ju.2 (by omega)),Gm (Ju.2 (by omega)),Gm (Ju.2 (by omega)),Gm (Ju.2 (by rw [List.length_set]; omega)),n2,n3,hs,Oh (by omega) (by omega),Oh (by omega) (by omega)]
   have ih:=rev_l j (k - 2) m (A ++ [b]) M2 (a :: B) (by omega) (by omega) (by simp; omega)
   have e1 : (((A ++ [b]).length : Nat) : Int) = (A.length : Int) + 1:=by simp
   rw [e1] at ih
   have e2 : (A.length : Int) + 1 + (M2.length : Int) - 1 = ((A.length + M2.length + 1 : Nat) : Int) - 1:=by omega
   rw [e2] at ih
   rw [ih]
   simp
theorem CI (l : List Int) (hl : l.length ≤ 1000000) : Kl l = some l.reverse:=by
 unfold Kl
 rw [Nj,Oh (by omega) (by omega)]
 have h:=rev_l (fun x=>some x) l.length (((l.length : Int) - 1 - 0).toNat + 2) [] l [] (Nat.le_refl _) (by omega) (by simp; omega)
 simpa using h
theorem EL (l : List An) : (List.range l.length).map (fun (i : Nat)=>nth l (i : Int)) = l:=by
 apply List.ext_getElem
 ·simp
 ·intro i h1 h2
  simp [nth,List.getD,List.getElem?_eq_getElem h2]
end Go.Proofs.YtcmlfgcnichcdaaGreatDoor
namespace Go.Proofs.YtcmlfgcnichcdaaGreatDoor
open Go
def Vh (at_ : Int) : List An → List (Cz × Bool) → List An
 | [],_=>[]
 | d :: ds,m=>if decide (at_ < d.At) || Dw m (Cx d) false then Vh at_ ds m else
  d :: Vh at_ ds (if decide (d.Kind = 4) then Ff m (Cz.mk d.Of d.Other) true else m)
def AF (l : List An) (at_ : Int) : List An:=(Vh at_ l.reverse []).reverse
def Ss (l : List An) (at_ : Int) : List Nat → List (Cz × Bool) → List Nat
 | [],_=>[]
 | i :: is,m=>if decide (at_ < (nth l (i : Int)).At) || Dw m (Cx (nth l (i : Int))) false then Ss l at_ is m else
  i :: Ss l at_ is (if decide ((nth l (i : Int)).Kind = 4) then Ff m (Cz.mk (nth l (i : Int)).Of (nth l (i : Int)).Other) true else m)
theorem Rz (l : List An) (at_ : Int) : ∀ (is : List Nat) (m : List (Cz × Bool)),(Ss l at_ is m).Sublist is
 | [],_=>List.Sublist.refl _
 | i :: is,m=>by
  rw [Ss]
  split
  ·exact (Rz l at_ is m).cons i
  ·exact (Rz l at_ is _).cons_cons i
theorem Wb (l : List An) (at_ : Int) : ∀ (is : List Nat) (m : List (Cz × Bool)),(Ss l at_ is m).map (fun (i : Nat)=>nth l (i : Int)) = Vh at_ (is.map fun (i : Nat)=>nth l (i : Int)) m
 | [],_=>rfl
 | i :: is,m=>by
  rw [Ss,List.map_cons,Vh]
  split
  ·exact Wb l at_ is m
  ·rw [List.map_cons,Wb l at_ is _]
theorem Um (l : List An) (at_ : Int) : ∀ (is : List Nat) (m : List (Cz × Bool)) (x : List Int),x.length + is.length ≤ 1000000 →
  Hh l at_ is m x = Kl (x ++ (Ss l at_ is m).map fun (i : Nat)=>(i : Int))
 | [],_,x,_=>by rw [Hh]; simp [Ss]
 | i :: is,m,x,hl=>by
  simp only [List.length_cons] at hl
  rw [Hh,Ss]
  unfold Pi
  by_cases h : (decide (at_ < (nth l (i : Int)).At) || Dw m (Cx (nth l (i : Int))) false) = true
  ·rw [if_pos h,if_pos h]
   exact Um l at_ is m x (by omega)
  ·rw [if_neg h,if_neg h,Gm (by unfold Px; exact decide_eq_true (by omega)),Um l at_ is _ (x ++ [(i : Int)]) (by simp; omega)]
   simp
def AG (l : List An) (at_ : Int) : List Nat:=(Ss l at_ (Py l.length) []).reverse
theorem Wi (l : List An) (at_ : Int) (hl : l.length ≤ 1000000) : Nc l at_ = some ((AG l at_).map fun (i : Nat)=>(i : Int)):=by
 have h2 : (Py l.length).length = l.length:=by simp [Py]
 have h3:=(Rz l at_ (Py l.length) []).length_le
 unfold Nc
 rw [Um l at_ (Py l.length) [] [] (by simp; omega),List.nil_append,CI _ (by rw [List.length_map]; omega),← List.map_reverse]
 rfl
theorem cntI_lt {l : List An} {at_ : Int} {i : Nat} (h : i ∈ AG l at_) : i < l.length:=by
 unfold AG at h
 rw [List.mem_reverse] at h
 have:=(Rz l at_ (Py l.length) []).subset h
 unfold Py at this
 simpa using this
theorem CJ (l : List An) (at_ : Int) : (AG l at_).map (fun (i : Nat)=>nth l (i : Int)) = AF l at_:=by
 unfold AG AF
 rw [List.map_reverse,Wb]
 congr 2
 unfold Py
 rw [List.map_reverse,EL]
theorem Zc (p : Lt) (l : List An) : ∀ (is : List Nat) (k : Nat) (x : List An),(∀ i ∈ is,i < l.length) → x.length + is.length ≤ 1000000 →
  Ii l (fun x1=>some (some (Ib.mk p x1))) (is.map fun (i : Nat)=>(i : Int)) k x = some (some (Ib.mk p (x ++ is.map fun (i : Nat)=>nth l (i : Int))))
 | [],k,x,_,_=>by simp [Ii]
 | i :: is,k,x,hi,hl=>by
  simp only [List.length_cons] at hl
  have h1:=hi i List.mem_cons_self
  rw [List.map_cons,Ii,Gm (Ju.2 ⟨by omega,by omega⟩),Gm (by unfold Px; exact decide_eq_true (by omega)),Zc p l is (k + 1) (x ++ [nth l (i : Int)]) (fun j hj=>hi j (List.mem_cons_of_mem _ hj)) (by simp; omega)]
  simp
theorem CK (p : Lt) (l : List An) (at_ : Int) (hl : l.length ≤ 1000000) : Oz p l at_ = some (some (Ib.mk p (AF l at_))):=by
 have h3:=(Rz l at_ (Py l.length) []).length_le
 have h2 : (Py l.length).length = l.length:=by simp [Py]
 unfold Oz
 rw [Wi l at_ hl]
 simp only [Option.bind_some,Mp]
 rw [Zc p l (AG l at_) 0 [] (fun i hi=>cntI_lt hi) (by unfold AG; simp; omega),List.nil_append,CJ]
def FT (race : ByteArray) (m : List (ByteArray × An)) (y : An) : List (ByteArray × An) :=
 if y.Race = race then if y.Kind = 1 then Ff m y.Who y else if y.Kind = 2 then Su m y.Who else m else m
def EM (race : ByteArray) (l : List An) : List (ByteArray × An):=l.foldl (FT race) []
def entL (race : ByteArray) (l : List An) : List An:=Sr ltW ((EM race l).map (·.2))
theorem Qp (race : ByteArray) (j : List (ByteArray × An) → Option (List An)) : ∀ (ys : List An) (i : Nat) (m : List (ByteArray × An)),Hu race j ys i m = j (ys.foldl (FT race) m)
 | [],_,m=>by rw [Hu]; rfl
 | y :: ys,i,m=>by
  rw [Hu]
  simp only [Mp,List.foldl_cons]
  unfold FT
  by_cases hr : y.Race = race
  ·rw [if_neg (by simp [hr]),if_pos hr]
   by_cases h1 : y.Kind = 1
   ·rw [if_pos (decide_eq_true h1),if_pos h1]
    exact Qp race j ys (i + 1) _
   ·rw [if_neg (by simpa using h1),if_neg h1]
    by_cases h2 : y.Kind = 2
    ·rw [if_pos (decide_eq_true h2),if_pos h2]
     exact Qp race j ys (i + 1) _
    ·rw [if_neg (by simpa using h2),if_neg h2]
     exact Qp race j ys (i + 1) _
  ·rw [if_pos (by simpa using hr),if_neg hr]
   exact Qp race j ys (i + 1) _
theorem Xw (j : List An → Option (List An)) : ∀ (p : List (ByteArray × An)) (x : List An),x.length + p.length ≤ 1000000 → Ik j p x = j (x ++ p.map (·.2))
 | [],x,_=>by simp [Ik]
 | y :: p,x,h=>by
  simp only [List.length_cons] at h
  rw [Ik,Gm (by unfold Px; exact decide_eq_true (by omega))]
  simp only [Option.bind_some]
  rw [Xw j p (x ++ [y.2]) (by simp; omega)]
  simp
theorem DL {κ ν : Type} [DecidableEq κ] (k : κ) (v : ν) : ∀ m : List (κ × ν),(m.map (·.1)).Nodup → ((Ff m k v).map (·.1)).Nodup ∧ ∀ x,x ∈ (Ff m k v).map (·.1) ↔ x = k ∨ x ∈ m.map (·.1)
 | [],_=>⟨by simp [Ff],fun x=>by simp [Ff]⟩
 | (q,u) :: m,h=>by
  simp only [List.map_cons,List.nodup_cons] at h
  obtain ⟨i1,i2⟩:=DL k v m h.2
  by_cases e : k = q
  ·subst e
   simp only [Ff,if_true,List.map_cons,List.nodup_cons]
   exact ⟨h,fun x=>by simp⟩
  ·simp only [Ff,e,if_false,List.map_cons,List.nodup_cons]
   refine ⟨⟨fun hm=>((i2 q).1 hm).elim (fun h1=>e h1.symm) h.1,i1⟩,fun x=>?_⟩
   rw [List.mem_cons,i2 x,List.mem_cons]
   constructor
   ·rintro (h1 | h1 | h1)
    ·exact .inr (.inl h1)
    ·exact .inl h1
    ·exact .inr (.inr h1)
   ·rintro (h1 | h1 | h1)
    ·exact .inr (.inl h1)
    ·exact .inl h1
    ·exact .inr (.inr h1)
theorem Xx {κ ν : Type} [DecidableEq κ] (k : κ) : ∀ m : List (κ × ν),(Su m k).Sublist m
 | []=>List.Sublist.refl _
 | (q,u) :: m=>by
  by_cases e : k = q
  ·simp only [Su,e,if_true]; exact List.sublist_cons_self _ _
  ·simp only [Su,e,if_false]; exact (Xx k m).cons_cons _
theorem BG {κ ν : Type} [DecidableEq κ] (k : κ) (v : ν) : ∀ (m : List (κ × ν)) (p : κ × ν),p ∈ Ff m k v → p = (k,v) ∨ p ∈ m
 | [],p,h=>by simp [Ff] at h; exact .inl h
 | (q,u) :: m,p,h=>by
  by_cases e : k = q
  ·simp only [Ff,e,if_true,List.mem_cons] at h
   rcases h with h | h
   ·exact .inl (by rw [h,e])
   ·exact .inr (List.mem_cons_of_mem _ h)
  ·simp only [Ff,e,if_false,List.mem_cons] at h
   rcases h with h | h
   ·exact .inr (by rw [h]; exact List.mem_cons_self)
   ·exact (BG k v m p h).imp id (List.mem_cons_of_mem _)
structure DM (race : ByteArray) (l : List An) (m : List (ByteArray × An)) : Prop where
 nd : (m.map (·.1)).Nodup
 is : ∀ p ∈ m,p.1 = p.2.Who ∧ p.2.Race = race ∧ p.2.Kind = 1 ∧ p.2 ∈ l
theorem DN (race : ByteArray) (l : List An) : ∀ (ys : List An) (m : List (ByteArray × An)),(∀ y ∈ ys,y ∈ l) → DM race l m → DM race l (ys.foldl (FT race) m)
 | [],m,_,h=>h
 | y :: ys,m,hy,h=>by
  rw [List.foldl_cons]
  refine DN race l ys _ (fun z hz=>hy z (List.mem_cons_of_mem _ hz)) ?_
  unfold FT
  split
  ·rename_i hr
   split
   ·rename_i h1
    obtain ⟨a,_⟩:=DL y.Who y m h.nd
    refine ⟨a,fun p hp=>?_⟩
    rcases BG _ _ m p hp with rfl | hp
    ·exact ⟨rfl,hr,h1,hy y List.mem_cons_self⟩
    ·exact h.is p hp
   ·split
    ·exact ⟨h.nd.sublist ((Xx y.Who m).map _),fun p hp=>h.is p ((Xx y.Who m).subset hp)⟩
    ·exact h
  ·exact h
theorem entOk (race : ByteArray) (l : List An) : DM race l (EM race l):=DN race l l [] (fun _ h=>h) ⟨by simp,fun _ h=>by cases h⟩
theorem FU {race : ByteArray} {l : List An} {m : List (ByteArray × An)} (h : DM race l m) : (m.map (·.2)).map (·.Who) = m.map (·.1):=by
 rw [List.map_map]
 exact List.map_congr_left fun p hp=>(h.is p hp).1.symm
theorem CL (p : Lt) (l : List An) (race : ByteArray) (hl : (EM race l).length ≤ 12) : Nf p l race = some (entL race l):=by
 have ho:=entOk race l
 unfold Nf
 simp only [Mp]
 rw [Qp]
 refine allP_is fun q hq=>?_
 have hql : q.length = (EM race l).length:=hq.length_eq
 rw [Xw _ q [] (by simp; omega),List.nil_append,FR _ (by rw [List.length_map]; omega)]
 simp only [Option.bind_some]
 have hnd : (((EM race l).map (·.2)).map (·.Who)).Nodup:=by rw [FU ho]; exact ho.nd
 have hp : (q.map (·.2)).Perm ((EM race l).map (·.2)):=hq.map _
 congr 1
 exact FO ltW_irr Zb _ _ (DI ((hp.map (·.Who)).nodup_iff.2 hnd)) (Za Zb _ (DI hnd)) fun x=>by rw [hp.mem_iff]; exact (Vz _ _ _).symm
end Go.Proofs.YtcmlfgcnichcdaaGreatDoor
namespace Go.Proofs.YtcmlfgcnichcdaaGreatDoor
open Go
def Ob (at_ : Int) : List An → Cz → Bool
 | [],_=>false
 | z :: zs,e=>(decide (z.Kind = 4) && decide (Cz.mk z.Of z.Other = e) && (decide (z.At ≤ at_) && !Ob at_ zs (Cx z))) || Ob at_ zs e
def okB (at_ : Int) (l : List An) (i : Nat) : Bool:=decide ((nth l (i : Int)).At ≤ at_) && !Ob at_ (l.drop (i + 1)) (Cx (nth l (i : Int)))
theorem BH (l : List An) (n : Nat) (h : n < l.length) : l.drop n = nth l (n : Int) :: l.drop (n + 1):=by
 rw [List.drop_eq_getElem_cons h]
 unfold nth
 simp [List.getD,List.getElem?_eq_getElem h]
theorem Xy (l : List An) (at_ : Int) : ∀ (n : Nat) (m : List (Cz × Bool)),n ≤ l.length → (∀ e,Dw m e false = Ob at_ (l.drop n) e) → Ss l at_ (List.range n).reverse m = (List.range n).reverse.filter (okB at_ l)
 | 0,m,_,_=>rfl
 | n + 1,m,hn,hm=>by
  have hr : (List.range (n + 1)).reverse = n :: (List.range n).reverse:=by rw [List.range_succ,List.reverse_append]; rfl
  have hd:=BH l n (by omega)
  rw [hr,Ss,hm]
  by_cases hk : okB at_ l n = true
  ·rw [List.filter_cons_of_pos hk]
   unfold okB at hk
   simp only [Bool.and_eq_true,decide_eq_true_eq,Bool.not_eq_true'] at hk
   rw [decide_eq_false (by omega : ¬ at_ < (nth l (n : Int)).At),hk.2,if_neg (by simp)]
   congr 1
   refine Xy l at_ n _ (by omega) fun e=>?_
   rw [hd,Ob,hk.2,decide_eq_true hk.1]
   by_cases h4 : (nth l (n : Int)).Kind = 4
   ·rw [if_pos (decide_eq_true h4),Wy,decide_eq_true h4,hm]
    by_cases he : e = Cz.mk (nth l (n : Int)).Of (nth l (n : Int)).Other
    ·rw [if_pos he,he]; simp
    ·rw [if_neg he,decide_eq_false fun h=>he h.symm]; simp
   ·rw [if_neg (by simpa using h4),decide_eq_false h4,hm]; simp
  ·rw [List.filter_cons_of_neg hk]
   have hk' : okB at_ l n = false:=by simpa using hk
   unfold okB at hk'
   have hc : (decide (at_ < (nth l (n : Int)).At) || Ob at_ (l.drop (n + 1)) (Cx (nth l (n : Int)))) = true:=by
    by_cases ha : (nth l (n : Int)).At ≤ at_
    ·rw [decide_eq_true ha] at hk'
     simp only [Bool.true_and,Bool.not_eq_false'] at hk'
     rw [hk']; simp
    ·rw [decide_eq_true (by omega : at_ < (nth l (n : Int)).At)]; rfl
   rw [if_pos hc]
   refine Xy l at_ n m (by omega) fun e=>?_
   rw [hm,hd,Ob,hk']
   simp
theorem cntI_is (l : List An) (at_ : Int) : AG l at_ = (List.range l.length).filter (okB at_ l):=by
 unfold AG
 have h:=Xy l at_ l.length [] (Nat.le_refl _) fun e=>by rw [List.drop_length]; simp [Ob,Dw,Nv,Jw]
 have hr : Py l.length = (List.range l.length).reverse:=by unfold Py; rfl
 rw [hr,h,← List.filter_reverse,List.reverse_reverse]
theorem Zd (at_ : Int) : ∀ (l : List An),l.Pairwise (fun x y=>x.At ≤ y.At) → ∃ A Q,l = A ++ Q ∧ (∀ a ∈ A,a.At ≤ at_) ∧ ∀ q ∈ Q,at_ < q.At
 | [],_=>⟨[],[],rfl,fun _ h=>absurd h (by simp),fun _ h=>absurd h (by simp)⟩
 | x :: l,h=>by
  rw [List.pairwise_cons] at h
  by_cases hx : x.At ≤ at_
  ·obtain ⟨A,Q,e,h1,h2⟩:=Zd at_ l h.2
   exact ⟨x :: A,Q,by rw [e]; rfl,fun a ha=>(List.mem_cons.1 ha).elim (fun e=>by rw [e]; exact hx) (h1 a),h2⟩
  ·exact ⟨[],x :: l,rfl,fun _ h=>absurd h (by simp),fun q hq=>(List.mem_cons.1 hq).elim (fun e=>by rw [e]; omega) fun hq=>by have:=h.1 q hq; omega⟩
theorem Ze (at_ : Int) : ∀ (Q : List An),(∀ q ∈ Q,at_ < q.At) → ∀ e,Ob at_ Q e = false
 | [],_,_=>rfl
 | z :: Q,h,e=>by
  have h1:=h z List.mem_cons_self
  rw [Ob,Ze at_ Q (fun q hq=>h q (List.mem_cons_of_mem _ hq)) e,decide_eq_false (by omega : ¬ z.At ≤ at_)]
  simp
theorem Xz (at_ : Int) (Q : List An) (hQ : ∀ q ∈ Q,at_ < q.At) : ∀ (A : List An) (e : Cz),Ob at_ (A ++ Q) e = Ob at_ A e
 | [],e=>Ze at_ Q hQ e
 | z :: A,e=>by rw [List.cons_append,Ob,Ob,Xz at_ Q hQ A,Xz at_ Q hQ A]
theorem BI (P : List An) (at_ : Int) (i : Nat) (hi : i < P.length) (hl : P.length ≤ 1000) (hP : ∀ a ∈ P,a.At ≤ at_) (self : Int → List An → Option Bool) (hself : ∀ j : Nat,i < j → j < P.length → self (j : Int) P = some (!Ob at_ (P.drop (j + 1)) (Cx (nth P (j : Int))))) :
  ∀ (d m j : Nat),P.length = j + d → d < m → i < j → Fo P (i : Int) self (some true) m (j : Int) = some (!Ob at_ (P.drop j) (Cx (nth P (i : Int))))
 | d,0,j,_,h,_=>by omega
 | 0,m + 1,j,h,_,_=>by
  rw [Fo,if_neg (by simp; omega),List.drop_of_length_le (by omega)]
  rfl
 | d + 1,m + 1,j,h,hm,hj=>by
  have ih:=BI P at_ i hi hl hP self hself d m (j + 1) (by omega) (by omega) (by omega)
  have hjl : j < P.length:=by omega
  have bi : inB (i : Int) P.length = true:=Ju.2 (by omega)
  have bj : inB (j : Int) P.length = true:=Ju.2 (by omega)
  have hat : (nth P (j : Int)).At ≤ at_:=hP _ (List.mem_of_getElem? (Dg bj).1)
  have hw : W ((j : Int) + 1) = ((j + 1 : Nat) : Int):=by rw [Oh (by omega) (by omega)]; rfl
  rw [Fo,if_pos (decide_eq_true (by omega : (j : Int) < (P.length : Int)))]
  simp only [Mp,hw,Gm bi,Gm bj,Bool.false_eq_true,if_false,ih]
  rw [BH P j hjl,Ob,decide_eq_true hat]
  have hpl : decide (Cz.mk (nth P (j : Int)).Of (nth P (j : Int)).Other = Cx (nth P (i : Int))) = (decide ((nth P (j : Int)).Of = (nth P (i : Int)).Site) && decide ((nth P (j : Int)).Other = (nth P (i : Int)).No)):=by
   rw [← Bool.decide_and]
   apply decide_eq_decide.2
   unfold Cx
   simp
  rw [hpl]
  by_cases h4 : (nth P (j : Int)).Kind = 4
  ·rw [if_pos (decide_eq_true h4),decide_eq_true h4]
   by_cases ho : (nth P (j : Int)).Of = (nth P (i : Int)).Site
   ·rw [if_pos (decide_eq_true ho),decide_eq_true ho]
    by_cases hno : (nth P (j : Int)).Other = (nth P (i : Int)).No
    ·rw [if_pos (decide_eq_true hno),decide_eq_true hno,hself j hj hjl]
     simp only [Option.bind_some,Bool.true_and]
     cases Ob at_ (P.drop (j + 1)) (Cx (nth P (j : Int))) <;> simp
    ·rw [if_neg (by simpa using hno),decide_eq_false hno]
     simp
   ·rw [if_neg (by simpa using ho),decide_eq_false ho]
    simp
  ·rw [if_neg (by simpa using h4),decide_eq_false h4]
   simp
theorem Zf (P : List An) (at_ : Int) (hl : P.length ≤ 1000) (hP : ∀ a ∈ P,a.At ≤ at_) : ∀ (m i : Nat),i < P.length → P.length ≤ i + m → Gj m (i : Int) P = some (!Ob at_ (P.drop (i + 1)) (Cx (nth P (i : Int))))
 | 0,i,h1,h2=>by omega
 | m + 1,i,h1,h2=>by
  have hw : W ((i : Int) + 1) = ((i + 1 : Nat) : Int):=by rw [Oh (by omega) (by omega)]; rfl
  unfold Gj Kt
  rw [Mp,hw]
  exact BI P at_ i h1 hl hP _ (fun j hj hjl=>Zf P at_ hl hP m j hjl (by omega)) (P.length - (i + 1)) _ (i + 1) (by omega) (by omega) (by omega)
theorem Un (at_ : Int) (j : List An → Option (List Int)) : ∀ (ys : List An) (i : Nat) (x : List An),x.length + ys.length ≤ 100000 → Gb at_ j ys i x = j (x ++ ys.filter fun y=>decide (y.At ≤ at_))
 | [],i,x,_=>by simp [Gb]
 | y :: ys,i,x,h=>by
  simp only [List.length_cons] at h
  rw [Gb]
  simp only [Mp]
  by_cases hc : y.At ≤ at_
  ·rw [if_pos (decide_eq_true hc),Gm (by unfold Px; exact decide_eq_true (by omega)),Un at_ j ys (i + 1) _ (by simp; omega),List.filter_cons_of_pos (by simpa using hc)]
   simp
  ·rw [if_neg (by simpa using hc),Un at_ j ys (i + 1) x (by omega),List.filter_cons_of_neg (by simpa using hc)]
theorem Uo (P : List An) (at_ : Int) (hl : P.length ≤ 16) (hP : ∀ a ∈ P,a.At ≤ at_) (j : List Int → Option (List Int)) : ∀ (d m i : Nat) (x : List Int),P.length = i + d → d < m → x.length ≤ i → Gc P j m x (i : Int) = j (x ++ (((List.range' i d).filter fun k=>!Ob at_ (P.drop (k + 1)) (Cx (nth P (k : Int)))).map fun (k : Nat)=>(k : Int)))
 | d,0,i,x,_,h,_=>by omega
 | 0,m + 1,i,x,h,_,_=>by
  rw [Gc,if_neg (by simp; omega)]
  simp
 | d + 1,m + 1,i,x,h,hm,hx=>by
  have hw : W ((i : Int) + 1) = ((i + 1 : Nat) : Int):=by rw [Oh (by omega) (by omega)]; rfl
  rw [Gc,if_pos (decide_eq_true (by omega : (i : Int) < (P.length : Int)))]
  simp only [Mp,hw]
  rw [Zf P at_ (by omega) hP 16 i (by omega) (by omega),List.range'_succ]
  simp only [Option.bind_some]
  cases hu : Ob at_ (P.drop (i + 1)) (Cx (nth P (i : Int))) with
  | true =>
   rw [List.filter_cons_of_neg (by rw [hu]; simp)]
   simp only [Bool.not_true,Bool.false_eq_true,if_false]
   exact Uo P at_ hl hP j d m (i + 1) x (by omega) (by omega) (by omega)
  | false =>
   rw [List.filter_cons_of_pos (by rw [hu]; rfl)]
   simp only [Bool.not_false,if_true]
   rw [Gm (by unfold Px; exact decide_eq_true (by omega)),Uo P at_ hl hP j d m (i + 1) _ (by omega) (by omega) (by simp; omega)]
   simp
theorem Yi (l : List An) (at_ : Int) (hl : l.length ≤ 16) (hs : l.Pairwise fun x y=>x.At ≤ y.At) : ∃ r,Nc l at_ = some r ∧ Ji l at_ = some r:=by
 refine ⟨_,Wi l at_ (by omega),?_⟩
 obtain ⟨A,Q,e,h1,h2⟩:=Zd at_ l hs
 have hf : (l.filter fun y=>decide (y.At ≤ at_)) = A:=by
  rw [e,List.filter_append,List.filter_eq_self.2 fun a ha=>decide_eq_true (h1 a ha),List.filter_eq_nil_iff.2 fun q hq=>by have:=h2 q hq; simp; omega,List.append_nil]
 have hAl : A.length ≤ l.length:=by rw [e]; simp
 unfold Ji
 simp only [Mp]
 rw [Un at_ _ l 0 [] (by simp; omega),List.nil_append,hf]
 have h3:=Uo A at_ (by omega) h1 (fun x4=>some x4) A.length (((A.length : Int) - 0).toNat + 2) 0 [] (by omega) (by omega) (by simp)
 rw [List.nil_append] at h3
 refine Eq.trans h3 ?_
 rw [cntI_is,← List.range_eq_range']
 congr 2
 have hlen : l.length = A.length + Q.length:=by rw [e]; simp
 rw [hlen,List.range_add,List.filter_append]
 have hq : (List.map (fun x=>A.length + x) (List.range Q.length)).filter (okB at_ l) = []:=by
  rw [List.filter_eq_nil_iff]
  intro k hk
  obtain ⟨q,hq,rfl⟩:=List.mem_map.1 hk
  rw [List.mem_range] at hq
  have hmem : nth l ((A.length + q : Nat) : Int) ∈ Q:=by
   have : nth l ((A.length + q : Nat) : Int) = Q[q]:=by
    rw [e]
    unfold nth
    rw [Int.toNat_natCast]
    simp [List.getD,List.getElem?_append_right,List.getElem?_eq_getElem hq]
   rw [this]
   exact List.getElem_mem hq
  have:=h2 _ hmem
  unfold okB
  rw [decide_eq_false (by omega)]
  simp
 rw [hq,List.append_nil]
 refine List.filter_congr fun k hk=>?_
 rw [List.mem_range] at hk
 have hn : nth l (k : Int) = nth A (k : Int):=by
  rw [e]
  unfold nth
  simp [List.getD,List.getElem?_append_left hk]
 have hd : l.drop (k + 1) = A.drop (k + 1) ++ Q:=by
  rw [e,List.drop_append_of_le_length (by omega)]
 have hm : (nth A (k : Int)).At ≤ at_:=h1 _ (List.mem_of_getElem? (Dg (Ju.2 (by omega))).1)
 unfold okB
 rw [hn,hd,Xz at_ Q h2,decide_eq_true hm,Bool.true_and]
end Go.Proofs.YtcmlfgcnichcdaaGreatDoor
namespace Go.Proofs.YtcmlfgcnichcdaaGreatDoor
open Go
def Ya : List ByteArray:=[Rq,Xf,Xg,Xh,Cw]
def St : List ByteArray:=[Ph,Xi,Cw,k_A]
def Ti : List ByteArray:=[Sg,BS,BT,Cw]
def Qq : List ByteArray:=[Mx,Vt,Cw]
structure FV (d : An) : Prop where
 site : d.Site ∈ Qq
 who : d.Who ∈ Ya
 club : d.Club ∈ St
 race : d.Race ∈ Ti
 of_ : d.Of ∈ Qq
 at_ : 0 ≤ d.At ∧ d.At ≤ 80
theorem Oc {κ R : Type} {K : κ} {f : κ → R} (Pr : R → Prop) (p : κ → Prop) (hK : p K) (hf : ∀ K',p K' → Pr (f K')) : Pr (Fu K f):=hf K hK
def Nu (j : List (ByteArray × Int) → List An → Int → Option (List An × Int)) (a : Int) (m n : Nat) (r : Option (List An × Int)) : Prop :=
 ∃ mm x b,r = j mm x b ∧ a ≤ b ∧ b ≤ a + 20 * (m : Int) ∧ x.length ≤ n ∧ ∀ d ∈ x,FV d
theorem Zg : Cw ∈ Ya ∧ Cw ∈ St ∧ Cw ∈ Ti ∧ Cw ∈ Qq:=by simp [Ya,St,Ti,Qq]
section
variable {L : List Int} (hL : AZ L)
include hL
theorem BJ (many : Int) (hm : many ≤ 16) (j : List (ByteArray × Int) → List An → Int → Option ((List An) × Int)) : ∀ (m : Nat) (x1 : List (ByteArray × Int)) (x2 : List An) (a x4 x5 : Int),0 ≤ x5 → many - x5 < (m : Int) → 0 ≤ a → a + 20 * m ≤ 10000000 → x2.length + m ≤ 1000 → (∀ e,0 ≤ Dw x1 e 0 ∧ Dw x1 e 0 ≤ x5) →
  0 ≤ x4 → x4 ≤ 5 * x5 → (∀ d ∈ x2,FV d) → Nu j a m (x2.length + (many - x5).toNat) (Jb many L j (m + 1) x1 x2 a x4 x5)
 | m,x1,x2,a,x4,x5,h1,h2,h3,h4,h5,hx,h6,h7,hN=>by
  rw [Jb]
  by_cases hc : x5 < many
  ·rw [if_pos (decide_eq_true hc)]
   cases m with
   | zero=>omega
   | succ m =>
    obtain ⟨v1,b1,e1,g1,g2,hv1⟩:=Tv hL (a:=a) h3 (by omega) [0,1,5] (by simp) (by simp)
    have hv1' : 0 ≤ v1 ∧ v1 ≤ 5:=by simp only [List.mem_cons,List.not_mem_nil,or_false] at hv1; omega
    rw [e1]; simp only [Option.bind_some]
    obtain ⟨v2,b2,e2,g3,g4,hv2⟩:=Qf hL (a:=b1) (by omega) (by omega) [Mx,Mx,Vt] (by simp) (by simp)
    have hv2' : v2 ∈ Qq:=by simp only [List.mem_cons,List.not_mem_nil,or_false] at hv2; unfold Qq; rcases hv2 with rfl | rfl | rfl <;> simp
    rw [e2]; simp only [Option.bind_some]
    obtain ⟨v3,b3,e3,g5,g6,_⟩:=Tv hL (a:=b2) (by omega) (by omega) [1,1,1,3,3,3,2,4] (by simp) (by simp)
    rw [e3]; simp only [Option.bind_some]
    have hx' : ∀ e,0 ≤ Dw (Ff x1 v2 (W ((Dw x1 v2 0) + 1))) e 0 ∧ Dw (Ff x1 v2 (W ((Dw x1 v2 0) + 1))) e 0 ≤ x5 + 1:=fun e=>by
     have q1:=hx v2
     have q2:=hx e
     rw [Wy,Oh (by omega) (by omega)]
     split <;> omega
    refine Oc (Nu j a (m + 1) (x2.length + (many - x5).toNat)) (fun K=>∀ s1 s2 c,s1 ∈ Ya → s2 ∈ Ti → a ≤ c → c ≤ a + 5 → Nu j a (m + 1) (x2.length + (many - x5).toNat) (K s1 s2 c)) ?_ ?_
    ·intro s1 s2 c hs1 hs2 hc1 hc2
     refine Oc (Nu j a (m + 1) (x2.length + (many - x5).toNat)) (fun K=>∀ u1 u2 u3 u4 u5 c,u1 ∈ St → u4 ∈ Qq → a ≤ c → c ≤ a + 8 → Nu j a (m + 1) (x2.length + (many - x5).toNat) (K u1 u2 u3 u4 u5 c)) ?_ ?_
     ·intro u1 u2 u3 u4 u5 c hu1 hu4 hc1 hc2
      obtain ⟨f,d0,t0,y1,y2,_⟩:=Vg hL (a:=c) (by omega) (by omega) 100 (by omega)
      rw [t0]; simp only [Option.bind_some]
      refine Oc (Nu j a (m + 1) (x2.length + (many - x5).toNat)) (fun K=>∀ t0 t1 t2 t3 t4 t5 t6 t7 t8 c,t0 ∈ Qq → t3 ∈ Ya → t4 ∈ St → t5 ∈ Ti → a ≤ c → c ≤ a + 17 → Nu j a (m + 1) (x2.length + (many - x5).toNat) (K t0 t1 t2 t3 t4 t5 t6 t7 t8 c)) ?_ ?_
      ·intro q0 q1 q2 q3 q4 q5 q6 q7 q8 c hq0 hq3 hq4 hq5 hc1 hc2
       have hw4 : W (x4 + v1) = x4 + v1:=Oh (by omega) (by omega)
       rw [Gm (by unfold Px; exact decide_eq_true (by omega)),Oh (n:=x5 + 1) (by omega) (by omega)]
       obtain ⟨mm,x,b,r1,r2,r3,r4,r5⟩:=BJ many hm j m _ (x2 ++ [An.mk q0 q1 (W (x4 + v1)) q2 q3 q4 q5 q6 q7 u4 q8]) c (W (x4 + v1)) (x5 + 1) (by omega) (by omega) (by omega) (by omega) (by simp; omega) hx' (by omega) (by omega) (fun d hd=>by
        rcases List.mem_append.1 hd with hd | hd
        ·exact hN d hd
        ·rw [List.mem_singleton] at hd
         subst hd
         exact ⟨hq0,hq3,hq4,hq5,hu4,by show 0 ≤ W (x4 + v1) ∧ W (x4 + v1) ≤ 80; omega⟩)
       exact ⟨mm,x,b,r1,by omega,by push_cast; omega,by simp at r4; omega,r5⟩
      ·intro K7 hK7
       have hno : Nu j a (m + 1) (x2.length + (many - x5).toNat) (K7 v2 (Dw (Ff x1 v2 (W ((Dw x1 v2 0) + 1))) v2 0) v3 s1 u1 s2 u2 u3 u5 d0):=hK7 _ _ _ _ _ _ _ _ _ _ hv2' hs1 hu1 hs2 (by omega) (by omega)
       cases f with
       | false=>rw [if_neg (by simp)]; exact hno
       | true =>
        rw [if_pos rfl]
        obtain ⟨n,d1,t1,y3,y4,_⟩:=DH hL (a:=d0) (by omega) (by omega) 4 (by omega)
        rw [t1]; simp only [Option.bind_some]
        refine Oc (Nu j a (m + 1) (x2.length + (many - x5).toNat)) (fun K=>∀ t0 t1 t2 t3 t4 t5 t6 t7 t8 c,t0 ∈ Qq → t3 ∈ Ya → t4 ∈ St → t5 ∈ Ti → a ≤ c → c ≤ a + 17 → Nu j a (m + 1) (x2.length + (many - x5).toNat) (K t0 t1 t2 t3 t4 t5 t6 t7 t8 c)) ?_ ?_
        ·exact hK7
        intro K8 hK8
        refine Oc (Nu j a (m + 1) (x2.length + (many - x5).toNat)) (fun K=>∀ t0 t1 t2 t3 t4 t5 t6 t7 t8 c,t0 ∈ Qq → t3 ∈ Ya → t4 ∈ St → t5 ∈ Ti → a ≤ c → c ≤ a + 17 → Nu j a (m + 1) (x2.length + (many - x5).toNat) (K t0 t1 t2 t3 t4 t5 t6 t7 t8 c)) ?_ ?_
        ·exact hK8
        intro K9 hK9
        split
        ·skip
         obtain ⟨z1,m1,oz1,pz1,qz1,hz1⟩:=Qf hL (a:=d1) (by omega) (by omega) [Cw,Mx] (by simp) (by simp)
         rw [oz1]; simp only [Option.bind_some]
         obtain ⟨z2,m2,oz2,pz2,qz2,_⟩:=Xv hL (a:=m1) (by omega) (by omega) 1 9 (by omega) (by omega) (by omega)
         rw [oz2]; simp only [Option.bind_some]
         exact hK9 _ _ _ _ _ _ _ _ _ _ (by simp only [List.mem_cons,List.not_mem_nil,or_false] at hz1; unfold Qq; rcases hz1 with rfl | rfl <;> simp) hs1 hu1 hs2 (by omega) (by omega)
        ·refine Oc (Nu j a (m + 1) (x2.length + (many - x5).toNat)) (fun K=>∀ t0 t1 t2 t3 t4 t5 t6 c,t1 ∈ Ya → t2 ∈ St → t3 ∈ Ti → a ≤ c → c ≤ a + 17 → Nu j a (m + 1) (x2.length + (many - x5).toNat) (K t0 t1 t2 t3 t4 t5 t6 c)) ?_ ?_
         ·intro q0 q1 q2 q3 q4 q5 q6 c hq1 hq2 hq3 hc1 hc2; exact hK9 _ _ _ _ _ _ _ _ _ _ hv2' hq1 hq2 hq3 (by omega) (by omega)
         intro K10 hK10
         split
         ·skip
          obtain ⟨z1,m1,oz1,pz1,qz1,_⟩:=Xv hL (a:=d1) (by omega) (by omega) 1 4 (by omega) (by omega) (by omega)
          rw [oz1]; simp only [Option.bind_some]
          exact hK10 _ _ _ _ _ _ _ _ hs1 hu1 hs2 (by omega) (by omega)
         ·refine Oc (Nu j a (m + 1) (x2.length + (many - x5).toNat)) (fun K=>∀ t0 t1 t2 t3 t4 t5 c,t0 ∈ Ya → t1 ∈ St → t2 ∈ Ti → a ≤ c → c ≤ a + 17 → Nu j a (m + 1) (x2.length + (many - x5).toNat) (K t0 t1 t2 t3 t4 t5 c)) ?_ ?_
          ·intro q0 q1 q2 q3 q4 q5 c hq0 hq1 hq2 hc1 hc2; exact hK10 _ _ _ _ _ _ _ _ hq0 hq1 hq2 (by omega) (by omega)
          intro K11 hK11
          split
          ·skip
           obtain ⟨z1,m1,oz1,pz1,qz1,hz1⟩:=Qf hL (a:=d1) (by omega) (by omega) [Cw,Rq] (by simp) (by simp)
           rw [oz1]; simp only [Option.bind_some]
           obtain ⟨z2,m2,oz2,pz2,qz2,hz2⟩:=Qf hL (a:=m1) (by omega) (by omega) [k_A,Ph] (by simp) (by simp)
           rw [oz2]; simp only [Option.bind_some]
           obtain ⟨z3,m3,oz3,pz3,qz3,hz3⟩:=Qf hL (a:=m2) (by omega) (by omega) [Cw,Sg] (by simp) (by simp)
           rw [oz3]; simp only [Option.bind_some]
           simp only [List.mem_cons,List.not_mem_nil,or_false] at hz1 hz2 hz3
           exact hK11 _ _ _ _ _ _ _ (by unfold Ya; rcases hz1 with rfl | rfl <;> simp) (by unfold St; rcases hz2 with rfl | rfl <;> simp) (by unfold Ti; rcases hz3 with rfl | rfl <;> simp) (by omega) (by omega)
          ·skip
           obtain ⟨z1,m1,oz1,pz1,qz1,_⟩:=Xv hL (a:=d1) (by omega) (by omega) 0 360000 (by omega) (by omega) (by omega)
           rw [oz1]; simp only [Option.bind_some]
           obtain ⟨z2,m2,oz2,pz2,qz2,_⟩:=Xv hL (a:=m1) (by omega) (by omega) 0 8 (by omega) (by omega) (by omega)
           rw [oz2]; simp only [Option.bind_some]
           obtain ⟨z3,m3,oz3,pz3,qz3,_⟩:=Xv hL (a:=m2) (by omega) (by omega) 0 5 (by omega) (by omega) (by omega)
           rw [oz3]; simp only [Option.bind_some]
           exact hK11 _ _ _ _ _ _ _ hs1 hu1 hs2 (by omega) (by omega)
     ·intro K3 hK3
      refine Oc (Nu j a (m + 1) (x2.length + (many - x5).toNat)) (fun K=>∀ t0 t1 t2 t3 t4 c,t0 ∈ St → t3 ∈ Qq → a ≤ c → c ≤ a + 8 → Nu j a (m + 1) (x2.length + (many - x5).toNat) (K t0 t1 t2 t3 t4 c)) ?_ ?_
      ·exact hK3
      intro K4 hK4
      split
      ·skip
       obtain ⟨z1,m1,oz1,pz1,qz1,hz1⟩:=Qf hL (a:=c) (by omega) (by omega) [Ph,Xi,Cw] (by simp) (by simp)
       rw [oz1]; simp only [Option.bind_some]
       obtain ⟨z2,m2,oz2,pz2,qz2,_⟩:=Tv hL (a:=m1) (by omega) (by omega) [0,5900,6000,7000] (by simp) (by simp)
       rw [oz2]; simp only [Option.bind_some]
       simp only [List.mem_cons,List.not_mem_nil,or_false] at hz1
       exact hK4 _ _ _ _ _ _ (by unfold St; rcases hz1 with rfl | rfl | rfl <;> simp) Zg.2.2.2 (by omega) (by omega)
      ·refine Oc (Nu j a (m + 1) (x2.length + (many - x5).toNat)) (fun K=>∀ t0 t1 t2 t3 c,t2 ∈ Qq → a ≤ c → c ≤ a + 8 → Nu j a (m + 1) (x2.length + (many - x5).toNat) (K t0 t1 t2 t3 c)) ?_ ?_
       ·intro q0 q1 q2 q3 c hq2 hc1 hc2; exact hK4 _ _ _ _ _ _ Zg.2.1 hq2 (by omega) (by omega)
       intro K5 hK5
       split
       ·skip
        obtain ⟨z1,m1,oz1,pz1,qz1,_⟩:=Tv hL (a:=c) (by omega) (by omega) [0,5900,5900,6000,6100] (by simp) (by simp)
        rw [oz1]; simp only [Option.bind_some]
        obtain ⟨z2,m2,oz2,pz2,qz2,_⟩:=Tv hL (a:=m1) (by omega) (by omega) [0,0,0,0,3] (by simp) (by simp)
        rw [oz2]; simp only [Option.bind_some]
        exact hK5 _ _ _ _ _ Zg.2.2.2 (by omega) (by omega)
       ·refine Oc (Nu j a (m + 1) (x2.length + (many - x5).toNat)) (fun K=>∀ t0 t1 c,t0 ∈ Qq → a ≤ c → c ≤ a + 8 → Nu j a (m + 1) (x2.length + (many - x5).toNat) (K t0 t1 c)) ?_ ?_
        ·intro q0 q1 c hq0 hc1 hc2; exact hK5 _ _ _ _ _ hq0 (by omega) (by omega)
        intro K6 hK6
        split
        ·skip
         obtain ⟨z1,m1,oz1,pz1,qz1,hz1⟩:=Qf hL (a:=c) (by omega) (by omega) [Mx,Mx,Vt] (by simp) (by simp)
         rw [oz1]; simp only [Option.bind_some]
         have hb : Ud 1 (Dw (Ff x1 v2 (W ((Dw x1 v2 0) + 1))) Mx 0) ≤ 1000:=by
          have hz:=(hx' Mx).2
          have hmx : ∀ z : Int,z ≤ x5 + 1 → Ud 1 z ≤ 1000:=fun z hz=>by
           unfold Ud
           by_cases hq : z > 1
           ·rw [if_pos hq]; omega
           ·rw [if_neg hq]; omega
          exact hmx _ hz
         obtain ⟨z2,m2,oz2,pz2,qz2,_⟩:=Xu hL (a:=m1) (by omega) (by omega) 1 (Ud 1 (Dw (Ff x1 v2 (W ((Dw x1 v2 0) + 1))) Mx 0)) (by omega) (by omega) (by omega)
         rw [oz2]; simp only [Option.bind_some]
         simp only [List.mem_cons,List.not_mem_nil,or_false] at hz1
         exact hK6 _ _ _ (by unfold Qq; rcases hz1 with rfl | rfl | rfl <;> simp) (by omega) (by omega)
        ·exact hK6 _ _ _ Zg.2.2.2 (by omega) (by omega)
    ·intro K hK
     split
     ·obtain ⟨w1,c1,t1,q1,q2,hw1⟩:=Qf hL (a:=b3) (by omega) (by omega) [Rq,Xf,Xg,Xh] (by simp) (by simp)
      rw [t1]; simp only [Option.bind_some]
      obtain ⟨w2,c2,t2,q3,q4,hw2⟩:=Qf hL (a:=c1) (by omega) (by omega) [Sg,Sg,BS,BT] (by simp) (by simp)
      rw [t2]; simp only [Option.bind_some]
      simp only [List.mem_cons,List.not_mem_nil,or_false] at hw1 hw2
      exact hK _ _ _ (by unfold Ya; rcases hw1 with rfl | rfl | rfl | rfl <;> simp) (by unfold Ti; rcases hw2 with rfl | rfl | rfl | rfl <;> simp) (by omega) (by omega)
     ·exact hK _ _ _ Zg.1 Zg.2.2.1 (by omega) (by omega)
  ·rw [if_neg (by simpa using hc)]
   exact ⟨x1,x2,a,rfl,by omega,by omega,by omega,hN⟩
theorem Wc (many : Int) (h0 : 0 ≤ many) (hm : many ≤ 16) {a : Int} (ha : 0 ≤ a) (ha' : a ≤ 5000000) : ∃ l b,Le L a many = some (l,b) ∧ a ≤ b ∧ b ≤ a + 400 ∧ (l.length : Int) ≤ many ∧ ∀ d ∈ l,FV d:=by
 obtain ⟨k,rfl⟩:=Int.eq_ofNat_of_zero_le h0
 unfold Le
 simp only [Mp]
 obtain ⟨mm,x,b,e,g1,g2,g3,g4⟩:=BJ hL (k : Int) (by omega) (fun (x1 : List (ByteArray × Int)) (x2 : List An) (x3 : Int)=>Option.bind (Ez x2) (fun r23=>some (r23,x3))) (k + 1) [] [] a 0 0 (by omega) (by omega) ha (by omega) (by simp; omega) (by simp [Dw,Nv,Jw]) (by omega) (by omega) (fun _ h=>by cases h)
 simp only [List.length_nil,Nat.zero_add] at g3
 rw [show (((k : Int) - 0).toNat + 2) = k + 1 + 1 by omega,e]
 dsimp only
 rw [CA x (by omega)]
 exact ⟨_,_,rfl,g1,by push_cast at g2; omega,by rw [BZ]; omega,fun d hd=>g4 d ((Vz _ _ _).1 hd)⟩
end
end Go.Proofs.YtcmlfgcnichcdaaGreatDoor
namespace Go.Proofs.YtcmlfgcnichcdaaGreatDoor
open Go
end Go.Proofs.YtcmlfgcnichcdaaGreatDoor
namespace Go.Proofs.YtcmlfgcnichcdaaGreatDoor
open Go
theorem FW (j : Int) : ∀ (l : List Int) (i k : Nat),Hb j l i = Hb j l k
 | [],_,_=>rfl
 | a :: l,i,k=>by rw [Hb,Hb,FW j l (i + 1) (k + 1)]
theorem Zh (a : Int) (l : List Int) : Eb (a :: l) = if a ≠ 0 then a else Eb l:=by
 unfold Eb
 simp only [Nj,Hb]
 rw [FW 0 l (0 + 1) 0]
 by_cases h : a = 0 <;> simp [h]
theorem FX : Eb [] = 0:=rfl
end Go.Proofs.YtcmlfgcnichcdaaGreatDoor
namespace Go.Proofs.YtcmlfgcnichcdaaGreatDoor
open Go
theorem met_ok : Lu = some true:=by
 have h1 : Oy (Lt.mk [Ed.mk k_r 50 1 50 1 0 0 0] (Pz.mk [] 1 0) (Lq.mk 1 1 0)) = some 0:=by decide +kernel
 have h2 : Gu [An.mk k_s 1 0 1 k_a Cw k_r 5 0 Cw 0] = some 0:=by decide +kernel
 have h3 : AF [An.mk k_s 1 0 1 k_a Cw k_r 5 0 Cw 0] 0 = [An.mk k_s 1 0 1 k_a Cw k_r 5 0 Cw 0]:=by decide +kernel
 have h4 : entL k_r [An.mk k_s 1 0 1 k_a Cw k_r 5 0 Cw 0] = [An.mk k_s 1 0 1 k_a Cw k_r 5 0 Cw 0]:=by decide +kernel
 have h5:=CL (Lt.mk [Ed.mk k_r 50 1 50 1 0 0 0] (Pz.mk [] 1 0) (Lq.mk 1 1 0)) [An.mk k_s 1 0 1 k_a Cw k_r 5 0 Cw 0] k_r (by decide +kernel)
 rw [h4] at h5
 have h6:=CK (Lt.mk [Ed.mk k_r 50 1 50 1 0 0 0] (Pz.mk [] 1 0) (Lq.mk 1 1 0)) [An.mk k_s 1 0 1 k_a Cw k_r 5 0 Cw 0] 0 (by simp)
 rw [h3] at h6
 have h7 : Eh [Ed.mk k_r 50 1 50 1 0 0 0] k_r = 0:=by decide +kernel
 have h8 : Gf 0 = true:=by decide
 have h9 : nth [(0 : Int)] (W ((([(0 : Int)].length : Nat) : Int) - 1)) = 0:=by decide +kernel
 unfold Lu Qd Uv Tr
 rw [h1]
 simp only [Option.bind_some,Mp]
 rw [if_neg (by simp),h2]
 simp only [Option.bind_some]
 rw [if_neg (by simp),Ku,if_neg (by rw [h8]; simp),Ku,Gm (by decide +kernel),h9,h6]
 simp only [Option.bind_some]
 unfold Sh
 rw [if_neg (by simp),if_neg (by rw [h7]; simp),h5]
 simp only [Option.bind_some]
 rw [if_neg (by simp),Gm (by rw [h7]; decide +kernel)]
 simp only [Option.bind_some]
 rw [if_neg (by simp)]
 unfold Qx
 rw [h5]
 simp only [Option.bind_some,Mp]
 rw [Jo,Gm (by decide),Jo]
 rfl
end Go.Proofs.YtcmlfgcnichcdaaGreatDoor
namespace Go.Proofs.YtcmlfgcnichcdaaGreatDoor
open Go
theorem Tw (l : List An) : Iv l l = some true:=by
 unfold Iv
 rw [if_neg (by simp),Mp]
 exact eq_l l (Hk l (some true)) (fun _=>rfl) (fun _ _ _=>rfl) l [] rfl
theorem AH (l : List Int) : Lj l l = some true:=by
 unfold Lj
 rw [if_neg (by simp),Mp]
 exact eq_l l (Hr l (some true)) (fun _=>rfl) (fun _ _ _=>rfl) l [] rfl
section
variable {L : List Int} (hL : AZ L)
include hL
theorem dm_l1 (x : List An) (b2 f : Int) (hl : x.length ≤ 1000) (hf : Gu x = some f) (hg : f = 0 → DsG x) (j : Int → Option Bool) : ∀ (ys : List An) (i : Nat) (a : Int),0 ≤ a → a + 2 * ys.length ≤ 100000000 → ∃ c,Ek L (x,b2) f j ys i a = j c
 | [],i,a,_,_=>⟨a,rfl⟩
 | y :: ys,i,a,h0,h1=>by
  simp only [List.length_cons] at h1
  push_cast at h1
  obtain ⟨v1,a1,e1,p1,q1,_⟩:=Vg hL h0 (by omega) 12 (by omega)
  obtain ⟨v2,a2,e2,p2,q2,_⟩:=Vg hL (a:=a1) (by omega) (by omega) 2 (by omega)
  obtain ⟨c,ih⟩:=dm_l1 x b2 f hl hf hg j ys (i + 1) a2 (by omega) (by omega)
  refine ⟨c,?_⟩
  have key : ∀ z : An,(Option.bind (Nn x z) (fun r22=>if decide (f = 0) = true then Option.bind (Kn x z) (fun r23=>if (!decide (r22.2 = r23.2)) = true then (if ((!decide (r22.2 = r23.2)) || true) = true then some false else Ek L (x,b2) f j ys (i + 1) a2) else Option.bind (Iv r22.1 r23.1) (fun r24=>if ((!decide (r22.2 = r23.2)) || (!r24)) = true then some false else Ek L (x,b2) f j ys (i + 1) a2))
    else if (!decide (r22.2 = f)) = true then (if ((!decide (r22.2 = f)) || true) = true then some false else Ek L (x,b2) f j ys (i + 1) a2) else Option.bind (Iv r22.1 ([] : List An)) (fun r24=>if ((!decide (r22.2 = f)) || (!r24)) = true then some false else Ek L (x,b2) f j ys (i + 1) a2)) : Option Bool) = Ek L (x,b2) f j ys (i + 1) a2:=by
   intro z
   by_cases h : f = 0
   ·obtain ⟨r,w1,w2⟩:=CH (hg h) hl z
    rw [w1]
    simp only [Option.bind_some]
    rw [if_pos (decide_eq_true h),w2]
    simp only [Option.bind_some,decide_true,Bool.not_true,Bool.false_eq_true,if_false,Tw,Bool.or_self]
   ·have hw : Nn x z = some ([],f):=by
     unfold Nn
     rw [hf]
     simp only [Option.bind_some]
     rw [if_pos (by simpa using h)]
    rw [hw]
    simp only [Option.bind_some]
    rw [if_neg (by simpa using h)]
    simp only [decide_true,Bool.not_true,Bool.false_eq_true,if_false,Tw,Option.bind_some,Bool.or_self]
  rw [Ek,e1]
  simp only [Option.bind_some,Mp]
  rw [e2]
  simp only [Option.bind_some]
  rw [← ih]
  split <;> split <;> exact key _
theorem rest_ok (x : List An) (b2 : Int) (hx : x.length ≤ 14) (t : Int × Int) (x3 : Int) (h0 : 0 ≤ x3) (h1 : x3 ≤ 100000) (x4 : List An) (h4 : x4.length ≤ 14) :
 Option.bind (Il x) (fun r10 =>
 Option.bind (Mt x x4) (fun r11 =>
 Option.bind (Nd x t.1) (fun r12 =>
 Option.bind (Il x4) (fun r13 =>
 Fu (fun (x6 : Int) (x7 : List An) =>
 Fu (fun (x8 : List Int) =>
 Option.bind (Gu x) (fun r16 =>
 Fu (fun (c1 : Bool) =>
 Fu (fun (c2 : Bool) =>
 if c2 then
 some false
 else
 Option.bind (Le L x3 2) (fun r19 =>
 Fu (fun (x9 : Int) =>
 Option.bind (Lu) (fun r25 =>
 some r25)) (fun j8 =>
 Ek L (x,b2) r10 j8 r19.1 0 r19.2))) (fun j7 =>
 if (c1 || (!decide (r12.2 = (Eb [r10,(Dm t.1)])))) then j7 ((c1 || (!decide (r12.2 = (Eb [r10,(Dm t.1)])))) || true) else Option.bind (Lj r12.1 x8) (fun r18 =>
 j7 ((c1 || (!decide (r12.2 = (Eb [r10,(Dm t.1)])))) || (!r18))))) (fun j6 =>
 if ((!decide (r16 = r10)) || (!decide (r11.2 = x6))) then j6 (((!decide (r16 = r10)) || (!decide (r11.2 = x6))) || true) else Option.bind (Iv r11.1 x7) (fun r17 =>
 j6 (((!decide (r16 = r10)) || (!decide (r11.2 = x6))) || (!r17)))))) (fun j5 =>
 if decide ((Eb [r10,(Dm t.1)]) = 0) then
 Option.bind (Ji x t.1) (fun r15 =>
 j5 r15)
 else
 j5 ([] : List Int))) (fun j4 =>
 if decide ((Eb [r10,r13]) = 0) then
 Option.bind (Km x x4) (fun r14 =>
 j4 r14.2 r14.1)
 else
 j4 (Eb [r10,r13]) ([] : List An)))))) = some true:=by
 obtain ⟨f,f1,f2,f3⟩:=Xr x
 obtain ⟨g,g1,g2,g3⟩:=Xr x4
 have he : ∀ a b : Int,Eb [a,b] = if a ≠ 0 then a else b:=fun a b=>by
  rw [Zh,Zh,FX]
  by_cases ha : a = 0 <;> by_cases hb : b = 0 <;> simp [ha,hb]
 have hmf : Dm t.1 = if Gf t.1 = true then 0 else 1:=by
  have hmo : Gf t.1 = Hg t.1:=by
   unfold Gf Hg Ha
   by_cases a1 : 0 ≤ t.1 <;> by_cases a2 : t.1 < 345686400000 <;> simp [a1,a2] <;> omega
  unfold Dm Pn
  rw [hmo]
  cases Hg t.1 <;> rfl
 have hM : ∃ r,Mt x x4 = some r ∧ (Eb [f,g] = 0 → Km x x4 = some r) ∧ (Eb [f,g] ≠ 0 → r = ([],Eb [f,g])):=by
  rw [he]
  by_cases hf : f = 0
  ·by_cases hg : g = 0
   ·obtain ⟨r,r1,r2⟩:=CG (f3 hf) (g3 hg) (by omega) (by omega)
    exact ⟨r,r1,fun _=>r2,fun h=>absurd (by simp [hf,hg]) h⟩
   ·refine ⟨([],g),?_,fun h=>absurd h (by simp [hf,hg]),fun _=>by simp [hf]⟩
    unfold Mt
    rw [f1]
    simp only [Option.bind_some]
    rw [if_neg (by simp [hf]),g1]
    simp only [Option.bind_some]
    rw [if_pos (by simpa using hg)]
  ·refine ⟨([],f),?_,fun h=>absurd h (by simp [hf]),fun _=>by simp [hf]⟩
   unfold Mt
   rw [f1]
   simp only [Option.bind_some]
   rw [if_pos (by simpa using hf)]
 have hC : ∃ r,Nd x t.1 = some r ∧ r.2 = Eb [f,Dm t.1] ∧ (Eb [f,Dm t.1] = 0 → Ji x t.1 = some r.1) ∧ (Eb [f,Dm t.1] ≠ 0 → r.1 = []):=by
  rw [he,hmf]
  unfold Nd
  rw [f1]
  simp only [Option.bind_some]
  by_cases hf : f = 0
  ·rw [if_neg (by simp [hf])]
   by_cases hm : Gf t.1 = true
   ·rw [if_neg (by simp [hm]),if_pos hm]
    obtain ⟨r,r1,r2⟩:=Yi x t.1 (by omega) ((f3 hf).adj.up.imp fun {a b} h=>by have:=(Pq a b).1 h; omega)
    rw [r1]
    exact ⟨(r,0),rfl,by simp [hf],fun _=>r2,fun h=>absurd (by simp [hf]) h⟩
   ·rw [if_pos (by simpa using hm),if_neg hm]
    exact ⟨([],1),rfl,by simp [hf],fun h=>absurd h (by simp [hf]),fun _=>rfl⟩
  ·rw [if_pos (by simpa using hf)]
   exact ⟨([],f),rfl,by simp [hf],fun h=>absurd h (by simp [hf]),fun _=>rfl⟩
 obtain ⟨m,m1,m2,m3⟩:=hM
 obtain ⟨c,c1,c2,c3,c4⟩:=hC
 obtain ⟨ys,b,s1,s2,s3,s4,_⟩:=Wc hL 2 (by omega) (by omega) (a:=x3) h0 (by omega)
 have hfin : (Option.bind (Le L x3 2) (fun r19=>Ek L (x,b2) f (fun (x9 : Int)=>Option.bind (Lu) (fun r25=>some r25)) r19.1 0 r19.2)) = some true:=by
  rw [s1]
  simp only [Option.bind_some]
  obtain ⟨q,hq⟩:=dm_l1 hL x b2 f (by omega) f1 f3 (fun (x9 : Int)=>Option.bind (Lu) (fun r25=>some r25)) ys 0 b (by omega) (by omega)
  rw [hq,met_ok]
  rfl
 rw [f2,m1,c1,g2]
 simp only [Option.bind_some,Mp]
 rw [f1]
 simp only [Option.bind_some]
 by_cases hm0 : Eb [f,g] = 0
 ·rw [if_pos (decide_eq_true hm0),m2 hm0]
  simp only [Option.bind_some]
  by_cases hc0 : Eb [f,Dm t.1] = 0
  ·rw [if_pos (decide_eq_true hc0),c3 hc0]
   simp only [decide_true,Bool.not_true,Bool.or_self,Bool.false_eq_true,if_false,Tw,Option.bind_some,c2,AH,hfin]
  ·rw [if_neg (by simpa using hc0)]
   simp only [decide_true,Bool.not_true,Bool.or_self,Bool.false_eq_true,if_false,Tw,Option.bind_some,c2,c4 hc0,AH,hfin]
 ·rw [if_neg (by simpa using hm0)]
  have hm:=m3 hm0
  by_cases hc0 : Eb [f,Dm t.1] = 0
  ·rw [if_pos (decide_eq_true hc0),c3 hc0,hm]
   simp only [decide_true,Bool.not_true,Bool.or_self,Bool.false_eq_true,if_false,Tw,Option.bind_some,c2,AH,hfin]
  ·rw [if_neg (by simpa using hc0),hm]
   simp only [decide_true,Bool.not_true,Bool.or_self,Bool.false_eq_true,if_false,Tw,Option.bind_some,c2,c4 hc0,AH,hfin]
end
theorem plain_DeedsMerge (l : List Int) (hl : l.length ≤ 9223372036854775807) : Mc l = some true:=by
 have hL : AZ l:=by unfold AZ; omega
 obtain ⟨n1,a1,e1,p1,q1,n1a,n1b⟩:=Xu hL (a:=0) (by omega) (by omega) 0 14 (by omega) (by omega) (by omega)
 obtain ⟨x,a2,e2,p2,q2,x1,_⟩:=Wc hL n1 (by omega) (by omega) (a:=a1) (by omega) (by omega)
 obtain ⟨n3,a3,e3,p3,q3,n3a,n3b⟩:=Xu hL (a:=a2) (by omega) (by omega) 0 6 (by omega) (by omega) (by omega)
 obtain ⟨y,a4,e4,p4,q4,y1,_⟩:=Wc hL n3 (by omega) (by omega) (a:=a3) (by omega) (by omega)
 obtain ⟨t,a5,e5,p5,q5,_⟩:=Tv hL (a:=a4) (by omega) (by omega) [0,3,10,20,40,60,60,(-1)] (by simp) (by simp)
 have e5' : My l a4 = some (t,a5):=by unfold My; rw [e5]; rfl
 have hrest:=fun (x3 : Int) (h0 : 0 ≤ x3) (h1 : x3 ≤ 100000) (x4 : List An) (h4 : x4.length ≤ 14)=>rest_ok hL x a2 (by omega) (t,a5) x3 h0 h1 x4 h4
 unfold Mc
 rw [e1]; simp only [Option.bind_some]
 rw [e2]; simp only [Option.bind_some]
 rw [e3]; simp only [Option.bind_some]
 rw [e4]; simp only [Option.bind_some]
 rw [e5']; simp only [Option.bind_some]
 rw [Mp]
 -- the other list: its own,or a part of the first one
 have two : ∀ (z1 : Int) (z2 : Bool),0 ≤ z1 → z1 ≤ 50000 → (z2 = true → 0 < x.length) → ∀ REST : Int → List An → Option Bool,(∀ x3,0 ≤ x3 → x3 ≤ 100000 → ∀ x4 : List An,x4.length ≤ 14 → REST x3 x4 = some true) →
   (Fu (fun (x3 : Int) (x4 : List An)=>REST x3 x4) (fun j2 =>
    if z2 then
    Option.bind (Ke l z1 (x.length : Int)) (fun r7 =>
    Chk (Wz r7.1 (x.length : Int) x.length) (
    Option.bind (Fh (cut x r7.1 x.length)) (fun r8 =>
    Option.bind (Kg l r7.2 4) (fun r9 =>
    Fu (fun (x5 : List An) =>
    j2 r9.2 x5) (fun j3 =>
    if r9.1 then
    Chk (inB 0 r8.length) (
    Chk (inB 0 r8.length) (
    j3 (r8.set ((0 : Int).toNat) (An.mk ((nth r8 0).Site) ((nth r8 0).No) (W (((nth r8 0).At) + 1)) ((nth r8 0).Kind) ((nth r8 0).Who) ((nth r8 0).Club) ((nth r8 0).Race) ((nth r8 0).Time) ((nth r8 0).Fault) ((nth r8 0).Of) ((nth r8 0).Other)))))
    else
    j3 r8)))))
    else
    j2 z1 y)) = some true:=by
  intro z1 z2 h0 h1 hz REST hR
  simp only [Mp]
  cases z2 with
  | false=>rw [if_neg (by simp)]; exact hR z1 h0 (by omega) y (by omega)
  | true =>
   have hpos:=hz rfl
   obtain ⟨v,b,s1,s2,s3,s4,s5⟩:=DH hL (a:=z1) h0 (by omega) (x.length : Int) (by omega)
   rw [if_pos rfl,s1]
   simp only [Option.bind_some]
   have hv : v < (x.length : Int):=by omega
   have hcl : (cut x v (x.length : Int)).length = x.length - v.toNat:=by
    unfold cut
    rw [Int.toNat_natCast,List.take_length,List.length_drop]
   rw [Gm (Re.2 (by omega))]
   unfold Fh
   rw [Gm (decide_eq_true (by simp only [List.length_nil]; omega)),List.nil_append]
   simp only [Option.bind_some]
   obtain ⟨w,b',u1,u2,u3,_⟩:=Vg hL (a:=b) (by omega) (by omega) 4 (by omega)
   rw [u1]
   simp only [Option.bind_some]
   cases w with
   | false=>rw [if_neg (by simp)]; exact hR b' (by omega) (by omega) _ (by omega)
   | true =>
    rw [if_pos rfl,Gm (Ju.2 (by omega)),Gm (Ju.2 (by omega))]
    exact hR b' (by omega) (by omega) _ (by rw [List.length_set]; omega)
 by_cases h0 : (0 : Int) < (x.length : Int)
 ·obtain ⟨v,b,s1,s2,s3,_⟩:=Vg hL (a:=a5) (by omega) (by omega) 2 (by omega)
  rw [if_pos (decide_eq_true h0),s1]
  simp only [Option.bind_some]
  exact two b v (by omega) (by omega) (fun _=>by omega) _ hrest
 ·rw [if_neg (by simpa using h0)]
  exact two a5 false (by omega) (by omega) (fun h=>by cases h) _ hrest
end Go.Proofs.YtcmlfgcnichcdaaGreatDoor
