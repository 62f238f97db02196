/- Plans of meets that the stream gives: they are right. No program stands here but its twins. -/
import Derived.Test.YtancihamhcdboaaGreatDoorPMeetSort
namespace Go.Proofs.YtancihamhcdboaaGreatDoor
open Go
theorem TX (P : List Int) (v : Int) (Q : List Int) : nth (P ++ v :: Q) (P.length : Int) = v:=by unfold nth; simp
theorem TY (P : List Int) (v u : Int) (Q : List Int) : (P ++ v :: Q).set P.length u = P ++ u :: Q:=by simp
theorem rev_l (j : List Int → Option (List Int)) : ∀ (k m : Nat) (A M B : List Int),M.length ≤ k → M.length < m → A.length + M.length + B.length ≤ 1000000 →
  Kc j m (A ++ (M ++ B)) (A.length : Int) ((A.length : Int) + (M.length : Int) - 1) = j (A ++ (M.reverse ++ B))
 | k,0,A,M,B,_,h,_=>by omega
 | k,m + 1,A,M,B,hk,hm,hl=>by
  rw [Kc]
  match M,hk,hm,hl with
  | [],_,_,_=>rw [if_neg (by simp; omega)]; rfl
  | [z],_,_,_=>rw [if_neg (by simp)]; rfl
  | a :: z :: M1,hk,hm,hl =>
   obtain ⟨M2,b,hM⟩ : ∃ M2 b,z :: M1 = M2 ++ [b]:=by
    rcases List.eq_nil_or_concat (z :: M1) with h | ⟨M2,b,h⟩
    ·cases h
    ·exact ⟨M2,b,by rw [h]; simp⟩
   rw [hM] at hk hm hl ⊢
   simp only [List.length_cons,List.length_append,List.length_nil] at hk hm hl ⊢
   have hlen : (A ++ (a :: (M2 ++ [b]) ++ B)).length = A.length + M2.length + 2 + B.length:=by simp; omega
   have e3 : (A.length : Int) + ((M2.length + (0 + 1) + 1 : Nat) : Int) - 1 = ((A.length + M2.length + 1 : Nat) : Int):=by omega
   rw [e3,if_pos (decide_eq_true (by omega))]
   have n2 : nth (A ++ (a :: (M2 ++ [b]) ++ B)) (A.length : Int) = a:=by rw [List.cons_append]; exact TX _ _ _
   have h1 : A ++ (a :: (M2 ++ [b]) ++ B) = (A ++ a :: M2) ++ b :: B:=by simp
   have h2 : (A ++ a :: M2).length = A.length + M2.length + 1:=by simp; omega
   have n3 : nth (A ++ (a :: (M2 ++ [b]) ++ B)) ((A.length + M2.length + 1 : Nat) : Int) = b:=by
    rw [h1,← h2]; exact TX _ _ _
   have hs : ((A ++ (a :: (M2 ++ [b]) ++ B)).set ((A.length : Int)).toNat b).set (((A.length + M2.length + 1 : Nat) : Int)).toNat a = (A ++ [b]) ++ (M2 ++ (a :: B)):=by
    rw [Int.toNat_natCast,Int.toNat_natCast]
    have q1 : (A ++ (a :: (M2 ++ [b]) ++ B)).set A.length b = (A ++ b :: M2) ++ b :: B:=by
     rw [List.cons_append,TY]; simp
    have q2 : (A ++ b :: M2).length = A.length + M2.length + 1:=by simp; omega
    rw [q1,← q2,TY]
    simp
   rw [Gn (Ju.2 (by omega)),Gn (Ju.2 (by omega)),Gn (Ju.2 (by omega)),Gn (Ju.2 (by rw [List.length_set]; omega)),n2,n3,hs,Ox (by omega) (by omega),Ox (by omega) (by omega)]
   have ih:=rev_l j (k - 2) m (A ++ [b]) M2 (a :: B) (by omega) (by omega) (by simp; omega)
   have e1 : (((A ++ [b]).length : Nat) : Int) = (A.length : Int) + 1:=by simp
   rw [e1] at ih
   have e2 : (A.length : Int) + 1 + (M2.length : Int) - 1 = ((A.length + M2.length + 1 : Nat) : Int) - 1:=by omega
   rw [e2] at ih
   rw [ih]
   simp
theorem SC (l : List Int) (hl : l.length ≤ 1000000) : Pw l = some l.reverse:=by
 unfold Pw
 rw [Kt,Ox (by omega) (by omega)]
 have h:=rev_l (fun x=>some x) l.length (((l.length : Int) - 1 - 0).toNat + 2) [] l [] (Nat.le_refl _) (by omega) (by simp; omega)
 simpa using h
theorem VT (l : List Dx) : (List.range l.length).map (fun (i : Nat)=>nth l (i : Int)) = l:=by
 apply List.ext_getElem
 ·simp
 ·intro i h1 h2
  simp [nth,List.getD,List.getElem?_eq_getElem h2]
end Go.Proofs.YtancihamhcdboaaGreatDoor
namespace Go.Proofs.YtancihamhcdboaaGreatDoor
open Go
theorem DG.chk {d : Dx} (h : DG d) : Ro d = some 0:=by
 have hno:=inW.2 h.no
 have hat : Iz d.At = true:=by unfold Iz; simpa using h.at_
 have hkd : Ed d.Kind 1 4 = true:=inW.2 (by rcases h.kind with h | h | h | h <;> omega)
 have hf:=h.form
 obtain ⟨kW,w1,_⟩:=Xg d.Who
 obtain ⟨kR,r1,_⟩:=Xg d.Race
 obtain ⟨kC,c1,_⟩:=Xg d.Club
 obtain ⟨kO,o1,_⟩:=Xg d.Of
 unfold Ro
 simp only [h.site,w1,r1,c1,o1,Option.bind_some,hno,hat,hkd,Kt,Bool.not_true,Bool.or_self,Bool.false_eq_true,if_false]
 rcases h.kind with hk | hk | hk | hk
 ·rw [if_pos hk,hk] at hf
  obtain ⟨q1,q2⟩:=h.who (by omega)
  obtain rfl : kW = true:=Option.some.inj (w1.symm.trans q1)
  obtain rfl : kR = true:=Option.some.inj (r1.symm.trans q2)
  have ht:=inW.2 (h.time (.inl hk))
  have hc : (!decide (d.Club = An) && !kC) = false:=by
   rcases h.club hk with hc | hc
   ·rw [hc]; rfl
   ·obtain rfl : kC = true:=Option.some.inj (c1.symm.trans hc)
    simp
  have hd:=decide_eq_true hf
  simp only [hk,hd,ht,hc,show decide ((1 : Int) = 1) = true from rfl,show decide ((1 : Int) = 3) = false from rfl,show decide ((1 : Int) = 4) = false from rfl,decide_true,decide_false,Bool.not_true,Bool.not_false,Bool.true_and,Bool.false_and,Bool.and_true,Bool.and_false,Bool.or_false,Bool.false_or,Bool.true_or,Bool.or_true,Bool.and_self,Bool.or_self,if_true,Bool.false_eq_true,if_false]
  cases decide (d.Club = An) <;> simp only [decide_true,decide_false,Bool.not_true,Bool.not_false,Bool.true_and,Bool.false_and,Bool.and_true,Bool.and_false,Bool.or_false,Bool.false_or,Bool.true_or,Bool.or_true,Bool.and_self,Bool.or_self,if_true,Bool.false_eq_true,if_false]
 ·rw [if_neg (by omega),if_neg (by omega),if_neg (by omega),hk] at hf
  obtain ⟨q1,q2⟩:=h.who (by omega)
  obtain rfl : kW = true:=Option.some.inj (w1.symm.trans q1)
  obtain rfl : kR = true:=Option.some.inj (r1.symm.trans q2)
  have hd:=decide_eq_true hf
  simp only [hk,hd,Bool.not_true,show decide ((2 : Int) = 1) = false from rfl,show decide ((2 : Int) = 3) = false from rfl,show decide ((2 : Int) = 4) = false from rfl,decide_true,decide_false,Bool.not_true,Bool.not_false,Bool.true_and,Bool.false_and,Bool.and_true,Bool.and_false,Bool.or_false,Bool.false_or,Bool.true_or,Bool.or_true,Bool.and_self,Bool.or_self,if_true,Bool.false_eq_true,if_false]
 ·rw [if_neg (by omega),if_pos hk,hk] at hf
  obtain ⟨q1,q2⟩:=h.who (by omega)
  obtain rfl : kW = true:=Option.some.inj (w1.symm.trans q1)
  obtain rfl : kR = true:=Option.some.inj (r1.symm.trans q2)
  have ht:=inW.2 (h.time (.inr hk))
  have hu:=inW.2 (h.fault hk)
  have hd:=decide_eq_true hf
  simp only [hk,hd,ht,hu,show decide ((3 : Int) = 1) = false from rfl,show decide ((3 : Int) = 3) = true from rfl,show decide ((3 : Int) = 4) = false from rfl,decide_true,decide_false,Bool.not_true,Bool.not_false,Bool.true_and,Bool.false_and,Bool.and_true,Bool.and_false,Bool.or_false,Bool.false_or,Bool.true_or,Bool.or_true,Bool.and_self,Bool.or_self,if_true,Bool.false_eq_true,if_false]
 ·rw [if_neg (by omega),if_neg (by omega),if_pos hk,hk] at hf
  obtain ⟨q1,q2⟩:=h.of_ hk
  obtain rfl : kO = true:=Option.some.inj (o1.symm.trans q1)
  have hu:=inW.2 q2
  have hd:=decide_eq_true hf
  simp only [hk,hd,hu,show decide ((4 : Int) = 1) = false from rfl,show decide ((4 : Int) = 3) = false from rfl,show decide ((4 : Int) = 4) = true from rfl,decide_true,decide_false,Bool.not_true,Bool.not_false,Bool.true_and,Bool.false_and,Bool.and_true,Bool.and_false,Bool.or_false,Bool.false_or,Bool.true_or,Bool.or_true,Bool.and_self,Bool.or_self,if_true,Bool.false_eq_true,if_false]
theorem DsG.sub {x p : List Dx} (h : DsG x) (s : p.Sublist x) : DsG p :=
 ⟨Nat.le_trans s.length_le h.len,fun y hy=>h.each y (s.subset hy),up_DAdj (h.adj.up.sublist s),h.nodup.sublist (s.map _)⟩
theorem chk_l (l : List Dx) (h : DsG l) (j : List (Eo × Bool) → Bool → Option Int) : ∀ (ys dn : List Dx) (m : List (Eo × Bool)),l = dn ++ ys → (∀ e,El m e false = decide (e ∈ dn.map En)) →
  ∃ m',Ir l j ys dn.length m false = j m' false
 | [],dn,m,_,_=>⟨m,rfl⟩
 | y :: ys,dn,m,hd,hm=>by
  have hl:=h.len
  have hlen : l.length = dn.length + (ys.length + 1):=by rw [hd]; simp
  have hy:=(h.each y (by rw [hd]; simp)).chk
  have hns : En y ∉ dn.map En:=fun hin=>by
   have hn:=h.nodup
   rw [hd,List.map_append,List.nodup_append] at hn
   exact hn.2.2 _ hin _ (by simp) rfl
  obtain ⟨m',e⟩:=chk_l l h j ys (dn ++ [y]) (Gw m (En y) true) (by rw [hd]; simp) (fun e=>by
   rw [Yc,hm e]
   by_cases h1 : e = En y
   ·rw [if_pos h1]; exact (decide_eq_true (by simp [h1])).symm
   ·rw [if_neg h1]; exact decide_eq_decide.2 (by simp [h1]))
  rw [List.length_append,List.length_singleton] at e
  refine ⟨m',?_⟩
  rw [Ir,hy]
  simp only [Option.bind_some,Kt,decide_true,Bool.not_true,Bool.false_eq_true,if_false,hm,decide_eq_false hns,Bool.or_self]
  by_cases h0 : (0 : Int) < (dn.length : Int)
  ·obtain ⟨d,x,hdx⟩ : ∃ d x,dn = d ++ [x]:=by
    rcases List.eq_nil_or_concat dn with h1 | ⟨d,x,h1⟩
    ·rw [h1] at h0; simp at h0
    ·exact ⟨d,x,by rw [h1]; simp⟩
   have hdl : dn.length = d.length + 1:=by rw [hdx]; simp
   have hw : W ((dn.length : Int) - 1) = (d.length : Int):=by rw [Ox (by omega) (by omega)]; omega
   have hn : nth l (d.length : Int) = x:=by rw [hd,hdx]; unfold nth; simp
   have hc : ¬ 0 ≤ Kj x y:=by
    have:=h.adj d x y ys (by rw [hd,hdx]; simp)
    omega
   simp only [h0,decide_true,if_true,hw,Gn (show inB (d.length : Int) l.length = true from Ju.2 (by omega)),hn,hc,decide_false,Bool.false_eq_true,if_false]
   exact e
  ·simp only [h0,decide_false,Bool.false_eq_true,if_false]
   exact e
theorem DsG.chk {l : List Dx} (h : DsG l) : Ot l = some 0:=by
 have hl:=h.len
 unfold Ot
 rw [if_neg (by simp; omega)]
 simp only [Kt]
 obtain ⟨m',e⟩:=chk_l l h (fun x1 x2=>if x2 then some 6 else some 0) l [] [] rfl (fun e=>by simp [El,Pi,Od])
 rw [show ([] : List Dx).length = 0 from rfl] at e
 rw [e]
 rfl
theorem QC (m : List (Eo × Dx)) (k k' : Eo) (v : Dx) : Pi (Gw m k v) k' = if k' = k then some v else Pi m k':=DR k k' v m 0
theorem QD (j : List (Eo × Dx) → Option (List Dx × Int)) : ∀ (ys dn : List Dx) (i : Nat) (m : List (Eo × Dx)),((dn ++ ys).map En).Nodup →
  (∀ s ∈ dn,Pi m (En s) = some s) → (∀ e,(Pi m e).isSome = true → ∃ s ∈ dn,En s = e) →
  ∃ m',Pk j ys i m = j m' ∧ (∀ s ∈ dn ++ ys,Pi m' (En s) = some s) ∧ ∀ e,(Pi m' e).isSome = true → ∃ s ∈ dn ++ ys,En s = e
 | [],dn,i,m,_,h1,h2=>⟨m,rfl,by simpa using h1,by simpa using h2⟩
 | y :: ys,dn,i,m,hn,h1,h2=>by
  obtain ⟨m',e,g1,g2⟩:=QD j ys (dn ++ [y]) (i + 1) (Gw m (En y) y) (by simpa using hn) (fun s hs=>by
   rw [QC]
   rcases List.mem_append.1 hs with hs | hs
   ·rw [if_neg]
    ·exact h1 s hs
    ·intro he
     rw [List.map_append,List.nodup_append] at hn
     exact hn.2.2 _ (List.mem_map_of_mem hs) _ (by simp) he
   ·obtain rfl:=List.mem_singleton.1 hs
    rw [if_pos rfl]) (fun e he=>by
   rw [QC] at he
   by_cases h : e = En y
   ·exact ⟨y,by simp,h.symm⟩
   ·rw [if_neg h] at he
    obtain ⟨s,hs,hse⟩:=h2 e he
    exact ⟨s,List.mem_append.2 (.inl hs),hse⟩)
  exact ⟨m',by rw [Pk]; exact e,by simpa using g1,by simpa using g2⟩
theorem KN (m : List (Eo × Dx)) (p : List Dx) (j : List Dx → Option (List Dx × Int)) (h1 : ∀ s ∈ p,Pi m (En s) = some s) : ∀ (ys : List Dx) (i : Nat) (o : List Dx),
  (∀ y ∈ ys,(Pi m (En y)).isSome = true → y ∈ p) → o.length + ys.length ≤ 1000 → Nz m j ys i o = j (o ++ ys.filter fun y=>!decide (y ∈ p))
 | [],i,o,_,_=>by rw [Nz]; simp
 | y :: ys,i,o,h2,hl=>by
  simp only [List.length_cons] at hl
  have hr : Sq o.length = true:=by unfold Sq; exact decide_eq_true (by omega)
  have h2' : ∀ z ∈ ys,(Pi m (En z)).isSome = true → z ∈ p:=fun z hz=>h2 z (List.mem_cons_of_mem _ hz)
  rw [Nz]
  simp only [Og]
  by_cases hp : y ∈ p
  ·have hg:=h1 y hp
   have hd : El m (En y) (Dx.mk An 0 0 0 An An An 0 0 An 0) = y:=by unfold El; rw [hg]; rfl
   simp only [hg,hd,Option.isSome_some,decide_true,Bool.not_true,Bool.and_false,Bool.false_eq_true,if_false]
   rw [KN m p j h1 ys (i + 1) o h2' (by omega),List.filter_cons,if_neg (by simp [hp])]
  ·have hg : (Pi m (En y)).isSome = false:=by
    cases hx : (Pi m (En y)).isSome with
    | false=>rfl
    | true=>exact absurd (h2 y List.mem_cons_self hx) hp
   simp only [hg,Bool.false_and,Bool.false_eq_true,if_false,Bool.not_false,if_true,PX hr]
   rw [KN m p j h1 ys (i + 1) (o ++ [y]) h2' (by simp; omega),List.filter_cons,if_pos (by simp [hp])]
   simp
theorem QE {x p q : List Dx} (hx : DsG x) (hl : x.length ≤ 12) (sp : p.Sublist x) (sq : q.Sublist x) (hall : ∀ s ∈ x,s ∈ p ∨ s ∈ q) : Zf p q = some (x,0):=by
 have hp:=hx.sub sp
 have hq:=hx.sub sq
 have inj : ∀ a ∈ x,∀ b ∈ x,En a = En b → a = b:=by
  intro a ha b hb he
  have hn:=hx.nodup
  obtain ⟨d1,d2,e1⟩:=List.append_of_mem ha
  rw [e1,List.map_append,List.map_cons,List.nodup_append] at hn
  rw [e1] at hb
  rcases List.mem_append.1 hb with hb | hb
  ·exact absurd he.symm (hn.2.2 _ (List.mem_map_of_mem hb) _ (by simp))
  ·rcases List.mem_cons.1 hb with rfl | hb
   ·rfl
   ·have:=(List.nodup_cons.1 hn.2.1).1
    exact absurd (he ▸ List.mem_map_of_mem hb) this
 obtain ⟨m,e,g1,g2⟩:=QD (fun x1=>Option.bind (Qm p) (fun r3=>Gq (fun (x2 : List Dx)=>if decide (2000 < (x2.length : Int)) then some (([] : List Dx),2) else Option.bind (Jq x2) (fun r4=>some (r4,0))) (fun j2=>Nz x1 j2 q 0 r3)))
  p [] 0 [] (by simpa using hp.nodup) (by simp) (by simp [Pi,Od])
 rw [List.nil_append] at g1 g2
 have lp:=sp.length_le
 have lq:=sq.length_le
 have h2 : ∀ y ∈ q,(Pi m (En y)).isSome = true → y ∈ p:=fun y hy h=>by
  obtain ⟨s,hs,he⟩:=g2 _ h
  rw [← inj s (sp.subset hs) y (sq.subset hy) he]
  exact hs
 have hcl : Qm p = some p:=by
  unfold Qm
  rw [Gn (decide_eq_true (by simp; omega)),List.nil_append]
 have hm : ∀ z,z ∈ (p ++ q.filter fun y=>!decide (y ∈ p)) ↔ z ∈ x:=by
  intro z
  simp only [List.mem_append,List.mem_filter,Bool.not_eq_true',decide_eq_false_iff_not]
  constructor
  ·rintro (h | h)
   ·exact sp.subset h
   ·exact sq.subset h.1
  ·intro h
   by_cases hz : z ∈ p
   ·exact .inl hz
   ·exact .inr ⟨(hall z h).resolve_left hz,hz⟩
 have hpw : (p ++ q.filter fun y=>!decide (y ∈ p)).Pairwise fun a b=>ltD b a = false → ltD a b = true:=by
  have key : ∀ {l : List Dx},DsG l → l.Pairwise fun a b=>ltD b a = false → ltD a b = true:=fun h=>List.Pairwise.imp (fun {a b} (h1 : ltD a b = true)=>fun _ : ltD b a = false=>h1) h.adj.up
  rw [List.pairwise_append]
  refine ⟨key hp,key (hq.sub List.filter_sublist),fun a ha b hb h=>ltD_tot h fun he=>?_⟩
  simp only [List.mem_filter,Bool.not_eq_true',decide_eq_false_iff_not] at hb
  have:=inj a (sp.subset ha) b (sq.subset hb.1) he
  exact hb.2 (this ▸ ha)
 have hsort:=HC ltD_irr MU _ _ hpw hx.adj.up hm
 have hlen : (p ++ q.filter fun y=>!decide (y ∈ p)).length = x.length:=by rw [← Xu ltD,hsort]
 unfold Zf
 rw [hp.chk,hq.chk]
 simp only [Option.bind_some,decide_true,Bool.not_true,Bool.false_eq_true,if_false,Og] at e ⊢
 rw [e,hcl]
 simp only [Option.bind_some]
 rw [KN m p _ g1 q 0 p h2 (by omega),if_neg (by simp only [decide_eq_true_eq]; omega),XQ _ (by omega),hsort]
 rfl
end Go.Proofs.YtancihamhcdboaaGreatDoor
namespace Go.Proofs.YtancihamhcdboaaGreatDoor
open Go
def HF (at_ : Int) : List Dx → List (Eo × Bool) → List Dx
 | [],_=>[]
 | d :: ds,m=>if decide (at_ < d.At) || El m (En d) false then HF at_ ds m else
  d :: HF at_ ds (if decide (d.Kind = 4) then Gw m (Eo.mk d.Of d.Other) true else m)
def Xv (l : List Dx) (at_ : Int) : List Dx:=(HF at_ l.reverse []).reverse
def FE (l : List Dx) (at_ : Int) : List Nat → List (Eo × Bool) → List Nat
 | [],_=>[]
 | i :: is,m=>if decide (at_ < (nth l (i : Int)).At) || El m (En (nth l (i : Int))) false then FE l at_ is m else
  i :: FE l at_ is (if decide ((nth l (i : Int)).Kind = 4) then Gw m (Eo.mk (nth l (i : Int)).Of (nth l (i : Int)).Other) true else m)
theorem BA (l : List Dx) (at_ : Int) : ∀ (is : List Nat) (m : List (Eo × Bool)),(FE l at_ is m).Sublist is
 | [],_=>List.Sublist.refl _
 | i :: is,m=>by
  rw [FE]
  split
  ·exact (BA l at_ is m).cons i
  ·exact (BA l at_ is _).cons_cons i
theorem IG (l : List Dx) (at_ : Int) : ∀ (is : List Nat) (m : List (Eo × Bool)),(FE l at_ is m).map (fun (i : Nat)=>nth l (i : Int)) = HF at_ (is.map fun (i : Nat)=>nth l (i : Int)) m
 | [],_=>rfl
 | i :: is,m=>by
  rw [FE,List.map_cons,HF]
  split
  ·exact IG l at_ is m
  ·rw [List.map_cons,IG l at_ is _]
theorem IH (at_ : Int) : ∀ (l : List Dx) (m : List (Eo × Bool)),(HF at_ l m).Sublist l
 | [],_=>List.Sublist.refl _
 | d :: l,m=>by
  rw [HF]
  split
  ·exact (IH at_ l m).cons d
  ·exact (IH at_ l _).cons_cons d
theorem FW (l : List Dx) (at_ : Int) : (Xv l at_).Sublist l:=by
 have:=(IH at_ l.reverse []).reverse
 rwa [List.reverse_reverse] at this
theorem FX (l : List Dx) (at_ : Int) : ∀ (is : List Nat) (m : List (Eo × Bool)) (x : List Int),x.length + is.length ≤ 1000000 →
  Lp l at_ is m x = Pw (x ++ (FE l at_ is m).map fun (i : Nat)=>(i : Int))
 | [],_,x,_=>by rw [Lp]; simp [FE]
 | i :: is,m,x,hl=>by
  simp only [List.length_cons] at hl
  rw [Lp,FE]
  unfold Xl
  by_cases h : (decide (at_ < (nth l (i : Int)).At) || El m (En (nth l (i : Int))) false) = true
  ·rw [if_pos h,if_pos h]
   exact FX l at_ is m x (by omega)
  ·rw [if_neg h,if_neg h,Gn (by unfold Sq; exact decide_eq_true (by omega)),FX l at_ is _ (x ++ [(i : Int)]) (by simp; omega)]
   simp
def SD (l : List Dx) (at_ : Int) : List Nat:=(FE l at_ (Zc l.length) []).reverse
theorem QF (l : List Dx) (at_ : Int) (hl : l.length ≤ 1000000) : Xx l at_ = some ((SD l at_).map fun (i : Nat)=>(i : Int)):=by
 have h2 : (Zc l.length).length = l.length:=by simp [Zc]
 have h3:=(BA l at_ (Zc l.length) []).length_le
 unfold Xx
 rw [FX l at_ (Zc l.length) [] [] (by simp; omega),List.nil_append,SC _ (by rw [List.length_map]; omega),← List.map_reverse]
 rfl
theorem cntI_lt {l : List Dx} {at_ : Int} {i : Nat} (h : i ∈ SD l at_) : i < l.length:=by
 unfold SD at h
 rw [List.mem_reverse] at h
 have:=(BA l at_ (Zc l.length) []).subset h
 unfold Zc at this
 simpa using this
theorem SE (l : List Dx) (at_ : Int) : (SD l at_).map (fun (i : Nat)=>nth l (i : Int)) = Xv l at_:=by
 unfold SD Xv
 rw [List.map_reverse,IG]
 congr 2
 unfold Zc
 rw [List.map_reverse,VT]
theorem MV (p : Kq) (l : List Dx) : ∀ (is : List Nat) (k : Nat) (x : List Dx),(∀ i ∈ is,i < l.length) → x.length + is.length ≤ 1000000 →
  Na l (fun x1=>some (some (Lc.mk p x1))) (is.map fun (i : Nat)=>(i : Int)) k x = some (some (Lc.mk p (x ++ is.map fun (i : Nat)=>nth l (i : Int))))
 | [],k,x,_,_=>by simp [Na]
 | i :: is,k,x,hi,hl=>by
  simp only [List.length_cons] at hl
  have h1:=hi i List.mem_cons_self
  rw [List.map_cons,Na,Gn (Ju.2 ⟨by omega,by omega⟩),Gn (by unfold Sq; exact decide_eq_true (by omega)),MV p l is (k + 1) (x ++ [nth l (i : Int)]) (fun j hj=>hi j (List.mem_cons_of_mem _ hj)) (by simp; omega)]
  simp
theorem SF (p : Kq) (l : List Dx) (at_ : Int) (hl : l.length ≤ 1000000) : Ww p l at_ = some (some (Lc.mk p (Xv l at_))):=by
 have h3:=(BA l at_ (Zc l.length) []).length_le
 have h2 : (Zc l.length).length = l.length:=by simp [Zc]
 unfold Ww
 rw [QF l at_ hl]
 simp only [Option.bind_some,Og]
 rw [MV p l (SD l at_) 0 [] (fun i hi=>cntI_lt hi) (by unfold SD; simp; omega),List.nil_append,SE]
def XU (race : ByteArray) (m : List (ByteArray × Dx)) (y : Dx) : List (ByteArray × Dx) :=
 if y.Race = race then if y.Kind = 1 then Gw m y.Who y else if y.Kind = 2 then CD m y.Who else m else m
def LT (race : ByteArray) (l : List Dx) : List (ByteArray × Dx):=l.foldl (XU race) []
def DU (race : ByteArray) (l : List Dx) : List Dx:=Pv ltW ((LT race l).map (·.2))
theorem Zl (race : ByteArray) (j : List (ByteArray × Dx) → Option (List Dx)) : ∀ (ys : List Dx) (i : Nat) (m : List (ByteArray × Dx)),Mj race j ys i m = j (ys.foldl (XU race) m)
 | [],_,m=>by rw [Mj]; rfl
 | y :: ys,i,m=>by
  rw [Mj]
  simp only [Og,List.foldl_cons]
  unfold XU
  by_cases hr : y.Race = race
  ·rw [if_neg (by simp [hr]),if_pos hr]
   by_cases h1 : y.Kind = 1
   ·rw [if_pos (decide_eq_true h1),if_pos h1]
    exact Zl race j ys (i + 1) _
   ·rw [if_neg (by simpa using h1),if_neg h1]
    by_cases h2 : y.Kind = 2
    ·rw [if_pos (decide_eq_true h2),if_pos h2]
     exact Zl race j ys (i + 1) _
    ·rw [if_neg (by simpa using h2),if_neg h2]
     exact Zl race j ys (i + 1) _
  ·rw [if_pos (by simpa using hr),if_neg hr]
   exact Zl race j ys (i + 1) _
theorem KO (j : List Dx → Option (List Dx)) : ∀ (p : List (ByteArray × Dx)) (x : List Dx),x.length + p.length ≤ 1000000 → Ni j p x = j (x ++ p.map (·.2))
 | [],x,_=>by simp [Ni]
 | y :: p,x,h=>by
  simp only [List.length_cons] at h
  rw [Ni,Gn (by unfold Sq; exact decide_eq_true (by omega))]
  simp only [Option.bind_some]
  rw [KO j p (x ++ [y.2]) (by simp; omega)]
  simp
theorem OJ {κ ν : Type} [DecidableEq κ] (k : κ) (v : ν) : ∀ m : List (κ × ν),(m.map (·.1)).Nodup → ((Gw m k v).map (·.1)).Nodup ∧ ∀ x,x ∈ (Gw m k v).map (·.1) ↔ x = k ∨ x ∈ m.map (·.1)
 | [],_=>⟨by simp [Gw],fun x=>by simp [Gw]⟩
 | (q,u) :: m,h=>by
  simp only [List.map_cons,List.nodup_cons] at h
  obtain ⟨i1,i2⟩:=OJ k v m h.2
  by_cases e : k = q
  ·subst e
   simp only [Gw,if_true,List.map_cons,List.nodup_cons]
   exact ⟨h,fun x=>by simp⟩
  ·simp only [Gw,e,if_false,List.map_cons,List.nodup_cons]
   refine ⟨⟨fun hm=>((i2 q).1 hm).elim (fun h1=>e h1.symm) h.1,i1⟩,fun x=>?_⟩
   rw [List.mem_cons,i2 x,List.mem_cons]
   constructor
   ·rintro (h1 | h1 | h1)
    ·exact .inr (.inl h1)
    ·exact .inl h1
    ·exact .inr (.inr h1)
   ·rintro (h1 | h1 | h1)
    ·exact .inr (.inl h1)
    ·exact .inl h1
    ·exact .inr (.inr h1)
theorem KP {κ ν : Type} [DecidableEq κ] (k : κ) : ∀ m : List (κ × ν),(CD m k).Sublist m
 | []=>List.Sublist.refl _
 | (q,u) :: m=>by
  by_cases e : k = q
  ·simp only [CD,e,if_true]; exact List.sublist_cons_self _ _
  ·simp only [CD,e,if_false]; exact (KP k m).cons_cons _
theorem QG {κ ν : Type} [DecidableEq κ] (k : κ) (v : ν) : ∀ (m : List (κ × ν)) (p : κ × ν),p ∈ Gw m k v → p = (k,v) ∨ p ∈ m
 | [],p,h=>by simp [Gw] at h; exact .inl h
 | (q,u) :: m,p,h=>by
  by_cases e : k = q
  ·simp only [Gw,e,if_true,List.mem_cons] at h
   rcases h with h | h
   ·exact .inl (by rw [h,e])
   ·exact .inr (List.mem_cons_of_mem _ h)
  ·simp only [Gw,e,if_false,List.mem_cons] at h
   rcases h with h | h
   ·exact .inr (by rw [h]; exact List.mem_cons_self)
   ·exact (QG k v m p h).imp id (List.mem_cons_of_mem _)
structure TZ (race : ByteArray) (l : List Dx) (m : List (ByteArray × Dx)) : Prop where
 nd : (m.map (·.1)).Nodup
 is : ∀ p ∈ m,p.1 = p.2.Who ∧ p.2.Race = race ∧ p.2.Kind = 1 ∧ p.2 ∈ l
theorem UA (race : ByteArray) (l : List Dx) : ∀ (ys : List Dx) (m : List (ByteArray × Dx)),(∀ y ∈ ys,y ∈ l) → TZ race l m → TZ race l (ys.foldl (XU race) m)
 | [],m,_,h=>h
 | y :: ys,m,hy,h=>by
  rw [List.foldl_cons]
  refine UA race l ys _ (fun z hz=>hy z (List.mem_cons_of_mem _ hz)) ?_
  unfold XU
  split
  ·rename_i hr
   split
   ·rename_i h1
    obtain ⟨a,_⟩:=OJ y.Who y m h.nd
    refine ⟨a,fun p hp=>?_⟩
    rcases QG _ _ m p hp with rfl | hp
    ·exact ⟨rfl,hr,h1,hy y List.mem_cons_self⟩
    ·exact h.is p hp
   ·split
    ·exact ⟨h.nd.sublist ((KP y.Who m).map _),fun p hp=>h.is p ((KP y.Who m).subset hp)⟩
    ·exact h
  ·exact h
theorem UB (race : ByteArray) (l : List Dx) : TZ race l (LT race l):=UA race l l [] (fun _ h=>h) ⟨by simp,fun _ h=>by cases h⟩
theorem QH {race : ByteArray} {l : List Dx} {m : List (ByteArray × Dx)} (h : TZ race l m) : (m.map (·.2)).map (·.Who) = m.map (·.1):=by
 rw [List.map_map]
 exact List.map_congr_left fun p hp=>(h.is p hp).1.symm
theorem SG (p : Kq) (l : List Dx) (race : ByteArray) (hl : (LT race l).length ≤ 12) : Qx p l race = some (DU race l):=by
 have ho:=UB race l
 unfold Qx
 simp only [Og]
 rw [Zl]
 refine SQ fun q hq=>?_
 have hql : q.length = (LT race l).length:=hq.length_eq
 rw [KO _ q [] (by simp; omega),List.nil_append,XT _ (by rw [List.length_map]; omega)]
 simp only [Option.bind_some]
 have hnd : (((LT race l).map (·.2)).map (·.Who)).Nodup:=by rw [QH ho]; exact ho.nd
 have hp : (q.map (·.2)).Perm ((LT race l).map (·.2)):=hq.map _
 congr 1
 exact HC ltW_irr IF _ _ (OI ((hp.map (·.Who)).nodup_iff.2 hnd)) (AY IF _ (OI hnd)) fun x=>by rw [hp.mem_iff]; exact (Xt _ _ _).symm
theorem XV {race : ByteArray} {l : List Dx} {d : Dx} : d ∈ DU race l ↔ d ∈ (LT race l).map (·.2):=Xt _ _ _
theorem KQ (race : ByteArray) (l : List Dx) : (DU race l).length = (LT race l).length:=by unfold DU; rw [Xu,List.length_map]
theorem entL_up (race : ByteArray) (l : List Dx) : (DU race l).Pairwise fun a b=>ltW a b = true:=by
 have ho:=UB race l
 exact AY IF _ (OI (by rw [QH ho]; exact ho.nd))
theorem HG {race : ByteArray} {l : List Dx} {d : Dx} (h : d ∈ DU race l) : d.Race = race ∧ d.Kind = 1 ∧ d ∈ l:=by
 obtain ⟨p,hp,rfl⟩:=List.mem_map.1 (XV.1 h)
 exact ((UB race l).is p hp).2
end Go.Proofs.YtancihamhcdboaaGreatDoor
namespace Go.Proofs.YtancihamhcdboaaGreatDoor
open Go
theorem QI (j : Int → Option Ee) : ∀ (m x y : Nat),x < m → Mo j m (x : Int) (y : Int) = j ((Nat.gcd x y : Nat) : Int)
 | 0,_,_,h=>by omega
 | m + 1,x,y,h=>by
  rw [Mo,Nat.gcd_rec]
  by_cases h0 : x = 0
  ·subst h0
   rw [if_neg (by simp),Nat.mod_zero,Nat.gcd_zero_right]
  ·have hlt:=Nat.mod_lt y (Nat.pos_of_ne_zero h0)
   rw [if_pos (by simp; omega),Gn (by simp [h0]),← Int.ofNat_tmod]
   exact QI j m (y % x) x (by omega)
theorem XW {a g : Nat} (h : a ≤ 4000000000000000000) : W (Int.tdiv (a : Int) (g : Int)) = ((a / g : Nat) : Int):=by
 rw [← Int.ofNat_tdiv]
 have:=Nat.div_le_self a g
 generalize a / g = q at this ⊢
 exact Ox (by omega) (by omega)
theorem frac_is (a b : Nat) (hb : 0 < b) (ha : a ≤ 4000000000000000000) (hb' : b ≤ 4000000000000000000) : Qf (a : Int) (b : Int) = some ⟨((a / Nat.gcd a b : Nat) : Int),((b / Nat.gcd a b : Nat) : Int)⟩:=by
 unfold Qf
 simp only [Kt]
 rw [QI _ _ a b (by simp)]
 have hg : 0 < Nat.gcd a b:=Nat.gcd_pos_of_pos_right _ hb
 have h0 : ¬ ((Nat.gcd a b : Nat) : Int) = 0:=by omega
 rw [Gn (by rw [decide_eq_false h0]; rfl),Gn (by rw [decide_eq_false h0]; rfl),XW ha,XW hb']
def fr (v : Nat) : Ee:=⟨((v / Nat.gcd v 60 : Nat) : Int),((60 / Nat.gcd v 60 : Nat) : Int)⟩
theorem gcd60 (v : Nat) : 0 < Nat.gcd v 60:=Nat.gcd_pos_of_pos_right _ (by decide)
theorem QJ {a b v : Nat} (hb : 0 < b) (h : a * 60 = v * b) : a / Nat.gcd a b = v / Nat.gcd v 60 ∧ b / Nat.gcd a b = 60 / Nat.gcd v 60:=by
 have hg:=Nat.gcd_pos_of_pos_right a hb
 have hk:=gcd60 v
 have c1 : (a / Nat.gcd a b).Coprime (b / Nat.gcd a b):=Nat.coprime_div_gcd_div_gcd hg
 have c2 : (v / Nat.gcd v 60).Coprime (60 / Nat.gcd v 60):=Nat.coprime_div_gcd_div_gcd hk
 have e1:=Nat.div_mul_cancel (Nat.gcd_dvd_left a b)
 have e2:=Nat.div_mul_cancel (Nat.gcd_dvd_right a b)
 have e3:=Nat.div_mul_cancel (Nat.gcd_dvd_left v 60)
 have e4:=Nat.div_mul_cancel (Nat.gcd_dvd_right v 60)
 generalize a / Nat.gcd a b = a' at *
 generalize b / Nat.gcd a b = b' at *
 generalize v / Nat.gcd v 60 = v' at *
 generalize hd : 60 / Nat.gcd v 60 = d' at *
 generalize Nat.gcd a b = g at *
 generalize Nat.gcd v 60 = k at *
 have hx : a' * d' = v' * b':=by
  have h1 : a' * g * (d' * k) = v' * k * (b' * g):=by rw [e1,e4,e3,e2]; exact h
  have h2 : a' * d' * (g * k) = v' * b' * (g * k):=by
   calc a' * d' * (g * k) = a' * g * (d' * k):=by ac_rfl
    _ = v' * k * (b' * g):=h1
    _ = v' * b' * (g * k):=by ac_rfl
  exact Nat.eq_of_mul_eq_mul_right (Nat.mul_pos hg hk) h2
 have hb' : 0 < b':=by
  rcases Nat.eq_zero_or_pos b' with h0 | h0
  ·rw [h0] at e2; omega
  ·exact h0
 have p1 : b' ∣ d':=c1.symm.dvd_of_dvd_mul_left (by rw [hx]; exact Nat.dvd_mul_left _ _)
 have p2 : d' ∣ b':=c2.symm.dvd_of_dvd_mul_left (by rw [← hx]; exact Nat.dvd_mul_left _ _)
 have e : b' = d':=Nat.dvd_antisymm p1 p2
 subst e
 exact ⟨Nat.eq_of_mul_eq_mul_right hb' hx,rfl⟩
theorem UC {a b v : Nat} (hb : 0 < b) (h : a * 60 = v * b) (ha : a ≤ 4000000000000000000) (hb' : b ≤ 4000000000000000000) : Qf (a : Int) (b : Int) = some (fr v):=by
 rw [frac_is a b hb ha hb']
 obtain ⟨h1,h2⟩:=QJ hb h
 rw [h1,h2]; rfl
theorem KR (v : Nat) : ∃ n d : Nat,fr v = ⟨(n : Int),(d : Int)⟩ ∧ 0 < d ∧ d ≤ 60 ∧ n ≤ v ∧ n * 60 = v * d:=by
 refine ⟨v / Nat.gcd v 60,60 / Nat.gcd v 60,rfl,?_,Nat.div_le_self _ _,Nat.div_le_self _ _,?_⟩
 ·exact Nat.div_pos (Nat.le_of_dvd (by decide) (Nat.gcd_dvd_right _ _)) (gcd60 v)
 ·have e3:=Nat.div_mul_cancel (Nat.gcd_dvd_left v 60)
  have e4:=Nat.div_mul_cancel (Nat.gcd_dvd_right v 60)
  generalize v / Nat.gcd v 60 = v' at *
  generalize 60 / Nat.gcd v 60 = d' at *
  generalize Nat.gcd v 60 = k at *
  calc v' * 60 = v' * (d' * k):=by rw [e4]
   _ = v' * k * d':=by ac_rfl
   _ = v * d':=by rw [e3]
theorem VU {n d m e u v : Nat} (h1 : n * 60 = u * d) (h2 : m * 60 = v * e) : (n * e + m * d) * 60 = (u + v) * (d * e):=by
 calc (n * e + m * d) * 60 = n * 60 * e + m * 60 * d:=by rw [Nat.add_mul]; congr 1 <;> ac_rfl
  _ = u * d * e + v * e * d:=by rw [h1,h2]
  _ = (u + v) * (d * e):=by rw [Nat.add_mul]; congr 1 <;> ac_rfl
theorem HH {a b : Nat} (ha : a ≤ 1000000000) (hb : b ≤ 60) : a * b ≤ 60000000000:=Nat.mul_le_mul ha hb
theorem XX {a b : Nat} (ha : a ≤ 1000000000) (hb : b ≤ 60) : W ((a : Int) * (b : Int)) = ((a * b : Nat) : Int):=by
 have:=HH ha hb
 rw [← Int.natCast_mul]
 exact Ox (by omega) (by omega)
theorem none_fr : Mb = fr 0:=by decide +kernel
end Go.Proofs.YtancihamhcdboaaGreatDoor
namespace Go.Proofs.YtancihamhcdboaaGreatDoor
open Go
def One (g : List Dy) : Prop:=g ≠ [] ∧ ∀ x ∈ g,∀ y ∈ g,x.Race = y.Race
theorem QK (pl pre g post : List Dy) (hp : pl = pre ++ (g ++ post)) (hg : One g) (hn : ∀ x ∈ g,∀ y,post.head? = some y → x.Race ≠ y.Race) (hl : pl.length ≤ 1000) (j : Int → Option (List (List Dy))) :
  ∀ (d m k : Nat),g.length = k + d → 1 ≤ k → d < m → Oa pl (pre.length : Int) j m ((pre.length + k : Nat) : Int) = j ((pre.length + g.length : Nat) : Int)
 | d,0,_,_,_,h=>by omega
 | d,m + 1,k,h1,h2,h3=>by
  have hlen : pl.length = pre.length + (g.length + post.length):=by rw [hp]; simp
  rw [Oa]
  simp only [Kt]
  have hn0 : ∃ g0 gs,g = g0 :: gs:=by
   cases g with
   | nil=>exact (hg.1 rfl).elim
   | cons a b=>exact ⟨a,b,rfl⟩
  obtain ⟨g0,gs,e0⟩:=hn0
  have h0 : nth pl (pre.length : Int) = g0:=by rw [hp,e0]; exact Xh pre g0 (gs ++ post) rfl
  have hb0 : inB (pre.length : Int) pl.length = true:=Ju.2 (by rw [hlen,e0]; simp; omega)
  cases d with
  | zero =>
   have hk : k = g.length:=by omega
   subst hk
   cases post with
   | nil =>
    simp only [List.length_nil,Nat.add_zero] at hlen
    rw [if_neg (by rw [hlen]; simp)]
    simp only [hlen,Int.lt_irrefl,decide_false,Bool.false_and,Bool.false_eq_true,if_false]
   | cons y post =>
    have hy : nth pl ((pre.length + g.length : Nat) : Int) = y:=by
     have : pl = (pre ++ g) ++ y :: post:=by rw [hp]; simp
     rw [this]; exact Xh (pre ++ g) y post (by simp)
    have hb : inB ((pre.length + g.length : Nat) : Int) pl.length = true:=Ju.2 (by rw [hlen]; simp; omega)
    rw [if_pos (by rw [hlen]; simp; omega),Gn hb,Gn hb0,hy,h0]
    have hne : decide (y.Race = g0.Race) = false:=decide_eq_false fun e=>hn g0 (by rw [e0]; simp) y rfl e.symm
    rw [hne,Bool.and_false,if_neg (by simp)]
  | succ d =>
   have hkg : k < g.length:=by omega
   have hk : nth pl ((pre.length + k : Nat) : Int) = g[k]:=by
    unfold nth
    rw [Int.toNat_natCast,List.getD,hp,List.getElem?_append_right (by omega),Nat.add_sub_cancel_left,List.getElem?_append_left hkg,List.getElem?_eq_getElem hkg]; rfl
   have hb : inB ((pre.length + k : Nat) : Int) pl.length = true:=Ju.2 (by rw [hlen]; omega)
   have hlt : ((pre.length + k : Nat) : Int) < (pl.length : Int):=by rw [hlen]; omega
   rw [if_pos (decide_eq_true hlt),Gn hb,Gn hb0,hk,h0]
   have heq : g[k].Race = g0.Race:=hg.2 _ (List.getElem_mem hkg) _ (by rw [e0]; simp)
   rw [if_pos (by simp only [heq,decide_true,Bool.and_true]; exact decide_eq_true hlt),Ox (by omega) (by omega)]
   have:=QK pl pre g post hp hg hn hl j d m (k + 1) (by omega) (by omega) (by omega)
   rw [show ((pre.length + k : Nat) : Int) + 1 = ((pre.length + (k + 1) : Nat) : Int) by omega]
   exact this
theorem QL (pl : List Dy) (hl : pl.length ≤ 1000) (j : List (List Dy) → Option (List (List Dy))) : ∀ (Gs : List (List Dy)) (pre : List Dy) (x1 : List (List Dy)) (m : Nat),pl = pre ++ Gs.flatten → Gs.length < m → x1.length + Gs.length ≤ 10000 →
  (∀ g ∈ Gs,One g) → Gs.Pairwise (fun g g'=>∀ x ∈ g,∀ y ∈ g',x.Race ≠ y.Race) → Mf pl j m x1 (pre.length : Int) = j (x1 ++ Gs)
 | Gs,pre,x1,0,_,h,_,_,_=>by omega
 | [],pre,x1,m + 1,h1,_,_,_,_=>by
  have : pl.length = pre.length:=by rw [h1]; simp
  rw [Mf,if_neg (by rw [this]; simp),List.append_nil]
 | g :: Gs,pre,x1,m + 1,h1,h2,h3,h4,h5=>by
  have hg:=h4 g List.mem_cons_self
  have hpos : 0 < g.length:=List.length_pos_iff.2 hg.1
  have hp : pl = pre ++ (g ++ Gs.flatten):=by rw [h1]; simp
  have hlen : pl.length = pre.length + (g.length + Gs.flatten.length):=by rw [hp]; simp
  obtain ⟨p1,p2⟩:=List.pairwise_cons.1 h5
  rw [Mf,if_pos (by rw [hlen]; simp; omega)]
  simp only [Kt]
  have hhead : ∀ x ∈ g,∀ y,Gs.flatten.head? = some y → x.Race ≠ y.Race:=by
   intro x hx y hy
   cases Gs with
   | nil=>simp at hy
   | cons g' Gs =>
    have hg':=h4 g' (by simp)
    cases g' with
    | nil=>exact (hg'.1 rfl).elim
    | cons a b=>simp at hy; subst hy; exact p1 (a :: b) List.mem_cons_self x hx a List.mem_cons_self
  have hk:=QK pl pre g Gs.flatten hp hg hhead hl (fun x3=>Chk (EM (pre.length : Int) x3 pl.length) (Chk (Sq x1.length) (Mf pl j m (x1 ++ [cut pl (pre.length : Int) x3]) x3))) (g.length - 1) (((pl.length : Int) - (W ((pre.length : Int) + 1))).toNat + 2) 1 (by omega) (by omega) (by rw [Ox (by omega) (by omega)]; omega)
  rw [Ox (by omega) (by omega)] at hk ⊢
  rw [show (pre.length : Int) + 1 = ((pre.length + 1 : Nat) : Int) by omega] at hk ⊢
  rw [hk,Gn (Wn.2 (by omega)),Gn (by unfold Sq; simp; simp at h3; omega)]
  have hcut : cut pl (pre.length : Int) ((pre.length + g.length : Nat) : Int) = g:=by
   unfold cut
   rw [hp,Int.toNat_natCast,Int.toNat_natCast,← List.append_assoc,List.take_left' (by simp),List.drop_left]
  rw [hcut]
  have ih:=QL pl hl j Gs (pre ++ g) (x1 ++ [g]) m (by rw [hp]; simp) (by simp at h2; omega) (by simp at h3 ⊢; omega) (fun g' h'=>h4 g' (List.mem_cons_of_mem _ h')) p2
  rw [List.length_append] at ih
  rw [ih]; simp
theorem UD : ∀ (Gs : List (List Dy)),(∀ g ∈ Gs,One g) → Gs.length ≤ Gs.flatten.length
 | [],_=>by simp
 | g :: Gs,h=>by
  have:=UD Gs fun g' h'=>h g' (List.mem_cons_of_mem _ h')
  have:=List.length_pos_iff.2 (h g List.mem_cons_self).1
  rw [List.flatten_cons,List.length_append,List.length_cons]; omega
theorem QM (Gs : List (List Dy)) (h1 : ∀ g ∈ Gs,One g) (h2 : Gs.Pairwise (fun g g'=>∀ x ∈ g,∀ y ∈ g',x.Race ≠ y.Race)) (hl : Gs.flatten.length ≤ 1000) : Tk Gs.flatten = some Gs:=by
 unfold Tk
 simp only [Kt]
 have hf:=UD Gs h1
 have:=QL Gs.flatten hl (fun x1=>some x1) Gs [] [] (((Gs.flatten.length : Int) - 0).toNat + 2) rfl (by omega) (by simp; omega) h1 h2
 simpa using this
structure TOk (t : Mz) : Prop where
 len : t.Points.length ≤ 5
 rng : ∀ n ∈ t.Points,0 ≤ n ∧ n ≤ 10
 rel : 1 ≤ t.Relay ∧ t.Relay ≤ 2
 most : 0 ≤ t.Most ∧ t.Most ≤ 2
def Yn (L : List Dy) (r : Eg) : Prop:=r.x_ ∈ L ∧ r.x_.Club ≠ An ∧ ∃ v,v ≤ 6000 ∧ r.points_ = fr v
theorem OK (t : Mz) (L : List Dy) (j : List (ByteArray × Int) → List Int → List Eg → Option (List Eg)) : ∀ (ys : List Dy) (i : Nat) (x1 : List (ByteArray × Int)) (x2 : List Int) (x3 : List Eg),(∀ y ∈ ys,y ∈ L) →
  (∀ s ∈ x2,0 ≤ s ∧ s < x3.length) → x2.length ≤ x3.length → x3.length + ys.length ≤ 5 → (∀ r ∈ x3,Yn L r) →
  ∃ mp sw out,Nt t j ys i x1 x2 x3 = j mp sw out ∧ (∀ s ∈ sw,0 ≤ s ∧ s < out.length) ∧ sw.length ≤ out.length ∧ out.length ≤ x3.length + ys.length ∧ (∀ r ∈ out,Yn L r)
 | [],i,x1,x2,x3,_,h1,h2,_,h4=>⟨x1,x2,x3,rfl,h1,h2,by simp,h4⟩
 | y :: ys,i,x1,x2,x3,h0,h1,h2,h3,h4=>by
  simp only [List.length_cons] at h3 ⊢
  rw [Nt]
  simp only [Kt]
  have hys : ∀ z ∈ ys,z ∈ L:=fun z hz=>h0 z (List.mem_cons_of_mem _ hz)
  by_cases hc : (decide (y.Rank = 0) || decide (y.Club = An)) = true
  ·rw [if_pos hc]
   obtain ⟨mp,sw,out,e,g1,g2,g3,g4⟩:=OK t L j ys (i + 1) x1 x2 x3 hys h1 h2 (by omega) h4
   exact ⟨mp,sw,out,e,g1,g2,by omega,g4⟩
  ·rw [if_neg hc]
   simp only [Bool.or_eq_true,decide_eq_true_eq,not_or] at hc
   have hok : ∀ r ∈ x3 ++ [(Eg.mk y Mb)],Yn L r:=fun r hr=>by
    rcases List.mem_append.1 hr with hr | hr
    ·exact h4 r hr
    ·obtain rfl:=List.mem_singleton.1 hr
     exact ⟨h0 y List.mem_cons_self,hc.2,0,by omega,none_fr⟩
   have go : ∀ x7 : List Int,(∀ s ∈ x7,0 ≤ s ∧ s < (x3 ++ [(Eg.mk y Mb)]).length) → x7.length ≤ x3.length + 1 → ∃ mp sw out,Nt t j ys (i + 1) (Gw x1 y.Club (W ((El x1 y.Club 0) + 1))) x7 (x3 ++ [(Eg.mk y Mb)]) = j mp sw out ∧ (∀ s ∈ sw,0 ≤ s ∧ s < out.length) ∧ sw.length ≤ out.length ∧ out.length ≤ x3.length + (ys.length + 1) ∧ (∀ r ∈ out,Yn L r):=by
    intro x7 k1 k2
    obtain ⟨mp,sw,out,e,g1,g2,g3,g4⟩:=OK t L j ys (i + 1) (Gw x1 y.Club (W ((El x1 y.Club 0) + 1))) x7 (x3 ++ [(Eg.mk y Mb)]) hys k1 (by simp; omega) (by simp; omega) hok
    exact ⟨mp,sw,out,e,g1,g2,by simp at g3; omega,g4⟩
   split
   ·rw [Gn (by unfold Sq; simp; omega),Gn (by unfold Sq; simp; omega)]
    refine go _ (fun s hs=>?_) (by simp; omega)
    rcases List.mem_append.1 hs with hs | hs
    ·have:=h1 s hs; simp; omega
    ·obtain rfl:=List.mem_singleton.1 hs; simp; omega
   ·rw [Gn (by unfold Sq; simp; omega)]
    refine go _ (fun s hs=>?_) (by omega)
    have:=h1 s hs; simp; omega
theorem UE (t : Mz) (ht : TOk t) (x2 : List Int) (x8 : List Eg) (hs : ∀ s ∈ x2,0 ≤ s ∧ s < x8.length) (h5 : x2.length ≤ 5) (i : Nat) (hi : i < x2.length) (j : Int → Int → Option (List Eg)) : ∀ (d m k : Nat) (s : Int),x2.length = k + d → d < m → i ≤ k → 0 ≤ s → s ≤ 10 * k →
  ∃ (k' : Nat) (s' : Int),Nu t x2 x8 (i : Int) j m (k : Int) s = j (k' : Int) s' ∧ k ≤ k' ∧ k' ≤ x2.length ∧ 0 ≤ s' ∧ s' ≤ 10 * k' ∧ (k = i → i < k')
 | d,0,_,_,_,h,_,_,_=>by omega
 | d,m + 1,k,s,h1,h2,h3,h4,h6=>by
  rw [Nu]
  simp only [Kt]
  have hx : ∀ q : Nat,q < x2.length → inB (q : Int) x2.length = true ∧ inB (nth x2 (q : Int)) x8.length = true:=fun q hq=>by
   have hb : inB (q : Int) x2.length = true:=Ju.2 (by omega)
   have:=hs _ (List.mem_of_getElem? (Eh hb).1)
   exact ⟨hb,Ju.2 this⟩
  cases d with
  | zero =>
   have hk : k = x2.length:=by omega
   subst hk
   rw [if_neg (by simp)]
   simp only [Int.lt_irrefl,decide_false,Bool.false_and,Bool.false_eq_true,if_false]
   exact ⟨x2.length,s,rfl,by omega,by omega,h4,h6,by omega⟩
  | succ d =>
   have hkl : k < x2.length:=by omega
   have hlt : decide ((k : Int) < (x2.length : Int)) = true:=decide_eq_true (by omega)
   rw [if_pos hlt,Gn (hx k hkl).1,Gn (hx k hkl).2,Gn (hx i hi).1,Gn (hx i hi).2,hlt,Bool.true_and]
   split
   ·have hw : W ((k : Int) + 1) = ((k + 1 : Nat) : Int):=by rw [Ox (by omega) (by omega)]; rfl
    have next : ∀ s2 : Int,0 ≤ s2 → s2 ≤ s + 10 → ∃ (k' : Nat) (s' : Int),Nu t x2 x8 (i : Int) j m (W ((k : Int) + 1)) s2 = j (k' : Int) s' ∧ k ≤ k' ∧ k' ≤ x2.length ∧ 0 ≤ s' ∧ s' ≤ 10 * k' ∧ (k = i → i < k'):=by
     intro s2 g1 g2
     rw [hw]
     obtain ⟨k',s',e,q1,q2,q3,q4,_⟩:=UE t ht x2 x8 hs h5 i hi j d m (k + 1) s2 (by omega) (by omega) (by omega) g1 (by push_cast; omega)
     exact ⟨k',s',e,by omega,q2,q3,q4,by omega⟩
    by_cases hp : (k : Int) < (t.Points.length : Int)
    ·have hb : inB (k : Int) t.Points.length = true:=Ju.2 (by omega)
     have hr:=ht.rng _ (List.mem_of_getElem? (Eh hb).1)
     have hw2 : W (s + nth t.Points (k : Int)) = s + nth t.Points (k : Int):=Ox (by omega) (by omega)
     rw [if_pos (decide_eq_true hp),Gn hb,hw2]
     exact next _ (by omega) (by omega)
    ·rw [if_neg (by simpa using hp)]
     exact next s h4 (by omega)
   ·rename_i hne
    exact ⟨k,s,rfl,by omega,by omega,h4,h6,fun e=>by subst e; simp at hne⟩
theorem frac60 {a : Int} {b : Nat} (ha : 0 ≤ a) (ha' : a ≤ 100) (hb : 1 ≤ b) (hb' : b ≤ 5) : ∃ v,v ≤ 6000 ∧ Qf a (b : Int) = some (fr v):=by
 obtain ⟨n,rfl⟩:=Int.eq_ofNat_of_zero_le ha
 have h60 : 60 / b * b = 60:=by
  have : b = 1 ∨ b = 2 ∨ b = 3 ∨ b = 4 ∨ b = 5:=by omega
  rcases this with rfl | rfl | rfl | rfl | rfl <;> rfl
 have hle : 60 / b ≤ 60:=Nat.div_le_self _ _
 refine ⟨n * (60 / b),?_,UC (by omega) (by rw [Nat.mul_assoc,h60]) (by omega) (by omega)⟩
 calc n * (60 / b) ≤ 100 * 60:=Nat.mul_le_mul (by omega) hle
  _ = 6000:=rfl
theorem UF (L : List Dy) (x2 : List Int) (i k : Nat) (a : Int) (ha : 0 ≤ a) (ha' : a ≤ 100) (hik : i < k) (hk : k ≤ x2.length) (h5 : x2.length ≤ 5) (j : List Eg → Option (List Eg)) : ∀ (d m q : Nat) (x15 : List Eg),k - i = q + d → d < m → (∀ s ∈ x2,0 ≤ s ∧ s < x15.length) → (∀ r ∈ x15,Yn L r) →
  ∃ out,Mk (k : Int) (i : Int) a x2 j m x15 (q : Int) = j out ∧ out.length = x15.length ∧ (∀ r ∈ out,Yn L r)
 | d,0,_,_,_,h,_,_=>by omega
 | d,m + 1,q,x15,h1,h2,h3,h4=>by
  rw [Mk]
  simp only [Int.toNat_natCast]
  cases d with
  | zero =>
   rw [if_neg (by simp; omega)]
   exact ⟨x15,rfl,rfl,h4⟩
  | succ d =>
   rw [if_pos (by simp; omega),Gn (Ju.2 (by omega))]
   have hw : W ((k : Int) - (i : Int)) = ((k - i : Nat) : Int):=by rw [Ox (by omega) (by omega)]; omega
   obtain ⟨v,hv,e⟩:=frac60 ha ha' (b:=k - i) (by omega) (by omega)
   rw [hw,e,Option.bind_some]
   have hcut : (cut x2 (i : Int) (k : Int))[q]? = x2[i + q]?:=by
    unfold cut
    rw [Int.toNat_natCast,Int.toNat_natCast,List.getElem?_drop,List.getElem?_take,if_pos (by omega)]
   have hm : nth (cut x2 (i : Int) (k : Int)) (q : Int) ∈ x2:=by
    unfold nth
    rw [Int.toNat_natCast,List.getD,hcut,List.getElem?_eq_getElem (by omega)]
    exact List.getElem_mem _
   have hs:=h3 _ hm
   generalize nth (cut x2 (i : Int) (k : Int)) (q : Int) = z at hs hm
   have hb : inB z x15.length = true:=Ju.2 hs
   rw [Gn hb,show W ((q : Int) + 1) = ((q + 1 : Nat) : Int) by rw [Ox (by omega) (by omega)]; rfl]
   have hz:=h4 _ (List.mem_of_getElem? (Eh hb).1)
   obtain ⟨out,e2,g1,g2⟩:=UF L x2 i k a ha ha' hik hk h5 j d m (q + 1) (x15.set z.toNat (Eg.mk ((nth x15 z).x_) (fr v))) (by omega) (by omega) (fun s hs=>by rw [List.length_set]; exact h3 s hs) (fun r hr=>by
    rcases List.mem_or_eq_of_mem_set hr with hr | rfl
    ·exact h4 r hr
    ·exact ⟨hz.1,hz.2.1,v,hv,rfl⟩)
   exact ⟨out,e2,by rw [g1,List.length_set],g2⟩
theorem UG (t : Mz) (ht : TOk t) (L g : List Dy) (hg : g ≠ []) (x2 : List Int) (h5 : x2.length ≤ 5) (j : List Eg → Option (List Eg)) : ∀ (m i : Nat) (x8 : List Eg),x2.length - i < m → i ≤ x2.length → (∀ s ∈ x2,0 ≤ s ∧ s < x8.length) → (∀ r ∈ x8,Yn L r) →
  ∃ out,Kz x2 g t j m x8 (i : Int) = j out ∧ out.length = x8.length ∧ (∀ r ∈ out,Yn L r)
 | 0,_,_,h,_,_,_=>by omega
 | m + 1,i,x8,h1,h2,h3,h4=>by
  rw [Kz]
  by_cases hi : i < x2.length
  ·rw [if_pos (by simp; omega)]
   simp only [Kt]
   have hg0 : inB 0 g.length = true:=Ju.2 ⟨by omega,by have:=List.length_pos_iff.2 hg; omega⟩
   obtain ⟨k',s',e,q1,q2,q3,q4,q5⟩:=UE t ht x2 x8 h3 h5 i hi (fun x10 x11=>Chk (inB 0 g.length) (if (nth g 0).Relay = true then Chk (EM (i : Int) x10 x2.length) (Mk x10 (i : Int) (W (x11 * t.Relay)) x2 (fun x15=>Kz x2 g t j m x15 x10) ((((x10.toNat - (i : Int).toNat : Nat) : Int) - 0).toNat + 2) x8 0) else Chk (EM (i : Int) x10 x2.length) (Mk x10 (i : Int) x11 x2 (fun x15=>Kz x2 g t j m x15 x10) ((((x10.toNat - (i : Int).toNat : Nat) : Int) - 0).toNat + 2) x8 0))) (x2.length - i) (((x2.length : Int) - (i : Int)).toNat + 2) i 0 (by omega) (by omega) (by omega) (by omega) (by omega)
   rw [e,Gn hg0]
   have hik:=q5 rfl
   have hs50 : s' ≤ 50:=by omega
   have fin : ∀ a : Int,0 ≤ a → a ≤ 100 → ∃ out,Chk (EM (i : Int) (k' : Int) x2.length) (Mk (k' : Int) (i : Int) a x2 (fun x15=>Kz x2 g t j m x15 (k' : Int)) (((((k' : Int).toNat - (i : Int).toNat : Nat) : Int) - 0).toNat + 2) x8 0) = j out ∧ out.length = x8.length ∧ (∀ r ∈ out,Yn L r):=by
    intro a ha ha'
    rw [Gn (Wn.2 (by omega))]
    obtain ⟨o1,e1,g1,g2⟩:=UF L x2 i k' a ha ha' hik q2 h5 (fun x15=>Kz x2 g t j m x15 (k' : Int)) (k' - i) (((((k' : Int).toNat - (i : Int).toNat : Nat) : Int) - 0).toNat + 2) 0 x8 (by omega) (by simp) h3 h4
    obtain ⟨o2,e2,g3,g4⟩:=UG t ht L g hg x2 h5 j m k' o1 (by omega) q2 (fun s hs=>by rw [g1]; exact h3 s hs) g2
    exact ⟨o2,e1.trans e2,by omega,g4⟩
   have hrel:=ht.rel
   split
   ·have hr2 : t.Relay = 1 ∨ t.Relay = 2:=by omega
    have hm : 0 ≤ s' * t.Relay ∧ s' * t.Relay ≤ 100:=by rcases hr2 with h | h <;> rw [h] <;> omega
    rw [Ox (by omega) (by omega)]
    exact fin _ hm.1 hm.2
   ·exact fin _ q3 (by omega)
  ·rw [if_neg (by simp; omega)]
   exact ⟨x8,rfl,rfl,h4⟩
theorem race_is (t : Mz) (ht : TOk t) (L g : List Dy) (hg : g ≠ []) (h5 : g.length ≤ 5) (hL : ∀ x ∈ g,x ∈ L) : ∃ R,Yh t g = some R ∧ R.length ≤ g.length ∧ ∀ r ∈ R,Yn L r:=by
 unfold Yh
 simp only [Kt]
 obtain ⟨mp,sw,out,e,g1,g2,g3,g4⟩:=OK t L (fun _ x2 x3=>Kz x2 g t (fun x8=>some x8) (((x2.length : Int) - 0).toNat + 2) x3 0) g 0 [] [] [] hL (fun _ h=>by cases h) (Nat.le_refl _) (by simpa using h5) (fun _ h=>by cases h)
 simp only [List.length_nil,Nat.zero_add] at g3
 rw [e]
 obtain ⟨o,e2,k1,k2⟩:=UG t ht L g hg sw (by omega) (fun x8=>some x8) (((sw.length : Int) - 0).toNat + 2) 0 out (by omega) (by omega) g1 g4
 exact ⟨o,by rw [← e2]; rfl,by omega,k2⟩
theorem XY (t : Mz) (ht : TOk t) (L : List Dy) (j : List Eg → Option (List Eg)) : ∀ (Gs : List (List Dy)) (i : Nat) (x1 : List Eg),(∀ g ∈ Gs,g ≠ [] ∧ g.length ≤ 5 ∧ ∀ x ∈ g,x ∈ L) → x1.length + Gs.flatten.length ≤ 10000 → (∀ r ∈ x1,Yn L r) →
  ∃ R,Om t j Gs i x1 = j R ∧ R.length ≤ x1.length + Gs.flatten.length ∧ ∀ r ∈ R,Yn L r
 | [],i,x1,_,_,h=>⟨x1,rfl,by simp,h⟩
 | g :: Gs,i,x1,h1,h2,h3=>by
  obtain ⟨k1,k2,k3⟩:=h1 g List.mem_cons_self
  obtain ⟨R,e,g1,g2⟩:=race_is t ht L g k1 k2 k3
  simp only [List.flatten_cons,List.length_append] at h2 ⊢
  rw [Om,e,Option.bind_some,Gn (by simp; omega)]
  obtain ⟨R2,e2,g3,g4⟩:=XY t ht L j Gs (i + 1) (x1 ++ R) (fun g' h'=>h1 g' (List.mem_cons_of_mem _ h')) (by rw [List.length_append]; omega) (fun r hr=>by
   rcases List.mem_append.1 hr with hr | hr
   ·exact h3 r hr
   ·exact g2 r hr)
  simp only [List.length_append] at g3
  exact ⟨R2,e2,by omega,g4⟩
theorem rows_is (t : Mz) (ht : TOk t) (Gs : List (List Dy)) (h1 : ∀ g ∈ Gs,One g ∧ g.length ≤ 5) (h2 : Gs.Pairwise (fun g g'=>∀ x ∈ g,∀ y ∈ g',x.Race ≠ y.Race)) (hl : Gs.flatten.length ≤ 15) : ∃ R,Sd t Gs.flatten = some R ∧ R.length ≤ 15 ∧ ∀ r ∈ R,Yn Gs.flatten r:=by
 unfold Sd
 rw [QM Gs (fun g hg=>(h1 g hg).1) h2 (by omega)]
 simp only [Option.bind_some,Kt]
 obtain ⟨R,e,g1,g2⟩:=XY t ht Gs.flatten (fun x1=>some x1) Gs 0 [] (fun g hg=>⟨(h1 g hg).1.1,(h1 g hg).2,fun x hx=>List.mem_flatten.2 ⟨g,hg,hx⟩⟩) (by rw [List.length_nil]; omega) (fun _ h=>by cases h)
 exact ⟨R,e,by rw [List.length_nil] at g1; omega,g2⟩
end Go.Proofs.YtancihamhcdboaaGreatDoor
namespace Go.Proofs.YtancihamhcdboaaGreatDoor
open Go
def k_eve : ByteArray:=⟨#[101,118,101]⟩
def k_grey : ByteArray:=⟨#[103,114,101,121]⟩
end Go.Proofs.YtancihamhcdboaaGreatDoor
namespace Go.Proofs.YtancihamhcdboaaGreatDoor
open Go
structure MW (t : Mz) : Prop extends TOk t where
 desc : t.Points.Pairwise fun a b=>b ≤ a
section
variable {L : List Int} (hL : HD L)
include hL
theorem UH (r4 : Int × Int) (j : List Int → Int → Option (Mz × Int)) : ∀ (d m : Nat) (x1 : List Int) (a n q : Int),r4.1 ≤ q + d → d < m → 0 ≤ q → q ≤ 5 → r4.1 ≤ 5 → x1.length = q.toNat → 0 ≤ a → a + d ≤ 1000000 → 0 ≤ n → n ≤ 10 → (∀ v ∈ x1,n ≤ v ∧ v ≤ 10) → x1.Pairwise (fun a b=>b ≤ a) →
  ∃ x b,Kn r4 L j m x1 a n q = j x b ∧ a ≤ b ∧ b ≤ a + d ∧ x.length ≤ 5 ∧ (∀ v ∈ x,0 ≤ v ∧ v ≤ 10) ∧ x.Pairwise (fun a b=>b ≤ a)
 | d,0,_,_,_,_,_,h,_,_,_,_,_,_,_,_,_,_=>absurd h (by omega)
 | d,m + 1,x1,a,n,q,h1,h2,h3,h4,h4',h5,h6,h7,h8,h9,h10,h11=>by
  rw [Kn]
  by_cases hc : q < r4.1
  ·rw [if_pos (decide_eq_true hc),Gn (by unfold Sq; simp; omega)]
   obtain ⟨d,rfl⟩ : ∃ e,d = e + 1:=⟨d - 1,by omega⟩
   obtain ⟨v,b,e,g1,g2,g3⟩:=Ta hL h6 (by omega) [0,1,2,3] (by simp) (by simp)
   rw [e]; simp only [Option.bind_some]
   have hv : 0 ≤ v ∧ v ≤ 3:=by simp at g3; omega
   have hn : 0 ≤ HM 0 (W (n - v)) ∧ HM 0 (W (n - v)) ≤ n:=by
    rw [Ox (by omega) (by omega)]; unfold HM; split <;> omega
   rw [show W (q + 1) = q + 1 from Ox (by omega) (by omega)]
   obtain ⟨x,c,r1,r2,r3,r5,r6,r7⟩:=UH r4 j d m (x1 ++ [n]) b (HM 0 (W (n - v))) (q + 1) (by omega) (by omega) (by omega) (by omega) h4' (by simp; omega) (by omega) (by omega) hn.1 (by omega) (fun v hv=>by
    rcases List.mem_append.1 hv with hv | hv
    ·have:=h10 v hv; omega
    ·obtain rfl:=List.mem_singleton.1 hv; omega) (by
    rw [List.pairwise_append]
    exact ⟨h11,by simp,fun u hu w hw=>by obtain rfl:=List.mem_singleton.1 hw; exact (h10 u hu).1⟩)
   exact ⟨x,c,r1,by omega,by omega,r5,r6,r7⟩
  ·rw [if_neg (by simpa using hc)]
   exact ⟨x1,a,rfl,by omega,by omega,by omega,fun v hv=>by have:=h10 v hv; omega,h11⟩
theorem XZ {a : Int} (h0 : 0 ≤ a) (h1 : a ≤ 100000) : Dr a 10 MW (Sb L a):=by
 unfold Sb
 obtain ⟨v1,b1,e1,p1,q1,m1⟩:=Ta hL h0 (by omega) [1,2] (by simp) (by simp)
 rw [e1]; simp only [Option.bind_some]
 obtain ⟨v2,b2,e2,p2,q2,m2⟩:=Ta hL (a:=b1) (by omega) (by omega) [0,0,1,2] (by simp) (by simp)
 rw [e2]; simp only [Option.bind_some]
 obtain ⟨v3,b3,e3,p3,q3,m3⟩:=Ta hL (a:=b2) (by omega) (by omega) [10,9,7,5] (by simp) (by simp)
 rw [e3]; simp only [Option.bind_some]
 obtain ⟨v4,b4,e4,p4,q4,m4,m5⟩:=DT hL (a:=b3) (by omega) (by omega) 0 5 (by omega) (by omega) (by omega)
 rw [e4]; simp only [Option.bind_some,Kt]
 simp only [List.mem_cons,List.not_mem_nil,or_false] at m1 m2 m3
 obtain ⟨x,b,e,g1,g2,g3,g4,g5⟩:=UH hL (v4,b4) (fun x1 x2=>some ((Mz.mk x1 v1 v2),x2)) v4.toNat ((v4 - 0).toNat + 2) [] b4 v3 0 (by simp only; omega) (by omega) (by omega) (by omega) (by simp only; omega) rfl (by omega) (by omega) (by omega) (by omega) (fun _ h=>by cases h) List.Pairwise.nil
 exact ⟨_,b,e,by omega,by omega,⟨⟨g3,g4,by simp only; omega,by simp only; omega⟩,g5⟩⟩
end
theorem KS (t : Mz) (ht : MW t) (j : Option Int) : ∀ (ys dn : List Int),t.Points = dn ++ ys → Kp t j ys dn.length = j
 | [],dn,_=>rfl
 | y :: ys,dn,h=>by
  have ih:=KS t ht j ys (dn ++ [y]) (by rw [h]; simp)
  rw [List.length_append,List.length_singleton] at ih
  have hy:=ht.rng y (by rw [h]; simp)
  have hw : Ed y 0 10000 = true:=by unfold Ed; simp; omega
  have hdl : dn.length ≤ 5:=by have:=ht.len; rw [h] at this; simp at this; omega
  rw [Kp,hw]
  simp only [Bool.not_true,Bool.false_eq_true,if_false,Kt]
  rcases List.eq_nil_or_concat dn with rfl | ⟨d,x,rfl⟩
  ·simpa using ih
  ·simp only [List.concat_eq_append] at *
   have hlen : ((d ++ [x]).length : Int) = (d.length : Int) + 1:=by simp
   have hn : nth t.Points (d.length : Int) = x:=by
    have : t.Points = d ++ x :: (y :: ys):=by rw [h]; simp
    rw [this]; exact Xh d x (y :: ys) rfl
   have hin : inB (d.length : Int) t.Points.length = true:=Ju.2 (by rw [h]; simp; omega)
   have hle : y ≤ x:=by
    have:=ht.desc
    rw [h,List.pairwise_append] at this
    exact this.2.2 x (by simp) y (by simp)
   have hpos : decide (0 < ((d ++ [x]).length : Int)) = true:=by rw [hlen]; exact decide_eq_true (by omega)
   rw [if_pos hpos,hpos,hlen,show (d.length : Int) + 1 - 1 = (d.length : Int) by omega,Ox (by omega) (by omega),Gn hin,hn,decide_eq_false (by omega)]
   simpa using ih
theorem QO {t : Mz} (ht : MW t) : Pt t = some 0:=by
 have hl:=ht.len
 have hr:=ht.rel
 have hm:=ht.most
 have h1 : Ed t.Relay 1 10 = true:=by unfold Ed; simp; omega
 have h2 : Ed t.Most 0 10 = true:=by unfold Ed; simp; omega
 unfold Pt
 rw [if_neg (by simp; omega)]
 simp only [Kt,h1,h2,Bool.not_true,Bool.or_self,Bool.false_eq_true,if_false]
 exact KS t ht (some 0) t.Points [] rfl
def kR (x : Dy) : Int:=if x.Rank = 0 then 301 else x.Rank
def EX (x y : Dy) : Bool:=decide (cB x.Race y.Race < 0 ∨ (x.Race = y.Race ∧ (kR x < kR y ∨ (kR x = kR y ∧ cB x.Who y.Who < 0))))
theorem DV {x y : Dy} : EX x y = true ↔ (cB x.Race y.Race < 0 ∨ (x.Race = y.Race ∧ (kR x < kR y ∨ (kR x = kR y ∧ cB x.Who y.Who < 0)))):=by simp [EX]
theorem SH (x y z : Dy) (h1 : EX x y = true) (h2 : EX y z = true) : EX x z = true:=by
 rw [DV] at *
 rcases h1 with h1 | ⟨e1,h1⟩
 ·rcases h2 with h2 | ⟨e2,_⟩
  ·exact .inl (AX h1 h2)
  ·exact .inl (by rw [← e2]; exact h1)
 ·rcases h2 with h2 | ⟨e2,h2⟩
  ·exact .inl (by rw [e1]; exact h2)
  ·refine .inr ⟨e1.trans e2,?_⟩
   rcases h1 with h1 | ⟨k1,h1⟩
   ·rcases h2 with h2 | ⟨k2,_⟩ <;> exact .inl (by omega)
   ·rcases h2 with h2 | ⟨k2,h2⟩
    ·exact .inl (by omega)
    ·exact .inr ⟨by omega,AX h1 h2⟩
def RR (x : Dy) : Prop:=0 ≤ x.Rank ∧ x.Rank ≤ 300
theorem YA {x : Dy} (h : RR x) : 1 ≤ kR x ∧ kR x ≤ 301:=by
 unfold kR; have:=h.1; have:=h.2; split <;> omega
def HI : List ByteArray:=[Yg,CS,CT,CU,k_eve]
def KT : List ByteArray:=[Rj,Uu,Xi]
def IQ : List ByteArray:=[Uv,Uv,FA,k_grey,An]
structure O0 (race : ByteArray) (rel : Bool) (o : List Dy) : Prop where
 len : o.length ≤ 5
 row : ∀ x ∈ o,x.Race = race ∧ x.Relay = rel ∧ x.Who ∈ HI ∧ x.Club ∈ IQ ∧ 0 ≤ x.Rank ∧ x.Rank ≤ 4
 who : o.Pairwise fun x y=>x.Who ≠ y.Who
section
variable {L : List Int} (hL : HD L)
include hL
end
def rk (o : List Dy) (r : Int) : Nat:=1 + o.countP fun z=>decide (0 < z.Rank) && decide (z.Rank < r)
def hR (o : List Dy) (x : Dy) : Dy:=Dy.mk x.Race x.Who x.Club (if 0 < x.Rank then (rk o x.Rank : Int) else 0) x.Relay
def g5 (x : Dy) : Dy:=Dy.mk x.Race x.Who x.Club (W (Int.tdiv x.Rank 10)) x.Relay
section
variable {L : List Int} (hL : HD L)
include hL
end
end Go.Proofs.YtancihamhcdboaaGreatDoor
namespace Go.Proofs.YtancihamhcdboaaGreatDoor
open Go
def HJ : List ByteArray:=[Yg,CS,CT,CU,An]
def Zm : List ByteArray:=[Uv,FA,An,k_A]
def DW : List ByteArray:=[Rj,Uu,RM,An]
def Zn : List ByteArray:=[Tw,HT,An]
structure MX (d : Dx) : Prop where
 site : d.Site ∈ Zn
 who : d.Who ∈ HJ
 club : d.Club ∈ Zm
 race : d.Race ∈ DW
 of_ : d.Of ∈ Zn
 at_ : 0 ≤ d.At ∧ d.At ≤ 80
theorem Wa {κ R : Type} {K : κ} {f : κ → R} (Pr : R → Prop) (p : κ → Prop) (hK : p K) (hf : ∀ K',p K' → Pr (f K')) : Pr (Gq K f):=hf K hK
def Vn (j : List (ByteArray × Int) → List Dx → Int → Option (List Dx × Int)) (a : Int) (m n : Nat) (r : Option (List Dx × Int)) : Prop :=
 ∃ mm x b,r = j mm x b ∧ a ≤ b ∧ b ≤ a + 20 * (m : Int) ∧ x.length ≤ n ∧ ∀ d ∈ x,MX d
theorem MY : An ∈ HJ ∧ An ∈ Zm ∧ An ∈ DW ∧ An ∈ Zn:=by simp [HJ,Zm,DW,Zn]
section
variable {L : List Int} (hL : HD L)
include hL
theorem QP (many : Int) (hm : many ≤ 16) (j : List (ByteArray × Int) → List Dx → Int → Option ((List Dx) × Int)) : ∀ (m : Nat) (x1 : List (ByteArray × Int)) (x2 : List Dx) (a x4 x5 : Int),0 ≤ x5 → many - x5 < (m : Int) → 0 ≤ a → a + 20 * m ≤ 10000000 → x2.length + m ≤ 1000 → (∀ e,0 ≤ El x1 e 0 ∧ El x1 e 0 ≤ x5) →
  0 ≤ x4 → x4 ≤ 5 * x5 → (∀ d ∈ x2,MX d) → Vn j a m (x2.length + (many - x5).toNat) (Ny many L j (m + 1) x1 x2 a x4 x5)
 | m,x1,x2,a,x4,x5,h1,h2,h3,h4,h5,hx,h6,h7,hN=>by
  rw [Ny]
  by_cases hc : x5 < many
  ·rw [if_pos (decide_eq_true hc)]
   cases m with
   | zero=>omega
   | succ m =>
    obtain ⟨v1,b1,e1,g1,g2,hv1⟩:=Ta hL (a:=a) h3 (by omega) [0,1,5] (by simp) (by simp)
    have hv1' : 0 ≤ v1 ∧ v1 ≤ 5:=by simp only [List.mem_cons,List.not_mem_nil,or_false] at hv1; omega
    rw [e1]; simp only [Option.bind_some]
    obtain ⟨v2,b2,e2,g3,g4,hv2⟩:=Yz hL (a:=b1) (by omega) (by omega) [Tw,Tw,HT] (by simp) (by simp)
    have hv2' : v2 ∈ Zn:=by simp only [List.mem_cons,List.not_mem_nil,or_false] at hv2; unfold Zn; rcases hv2 with rfl | rfl | rfl <;> simp
    rw [e2]; simp only [Option.bind_some]
    obtain ⟨v3,b3,e3,g5,g6,_⟩:=Ta hL (a:=b2) (by omega) (by omega) [1,1,1,3,3,3,2,4] (by simp) (by simp)
    rw [e3]; simp only [Option.bind_some]
    have hx' : ∀ e,0 ≤ El (Gw x1 v2 (W ((El x1 v2 0) + 1))) e 0 ∧ El (Gw x1 v2 (W ((El x1 v2 0) + 1))) e 0 ≤ x5 + 1:=fun e=>by
     have q1:=hx v2
     have q2:=hx e
     rw [Yc,Ox (by omega) (by omega)]
     split <;> omega
    refine Wa (Vn j a (m + 1) (x2.length + (many - x5).toNat)) (fun K=>∀ s1 s2 c,s1 ∈ HJ → s2 ∈ DW → a ≤ c → c ≤ a + 5 → Vn j a (m + 1) (x2.length + (many - x5).toNat) (K s1 s2 c)) ?_ ?_
    ·intro s1 s2 c hs1 hs2 hc1 hc2
     refine Wa (Vn j a (m + 1) (x2.length + (many - x5).toNat)) (fun K=>∀ u1 u2 u3 u4 u5 c,u1 ∈ Zm → u4 ∈ Zn → a ≤ c → c ≤ a + 8 → Vn j a (m + 1) (x2.length + (many - x5).toNat) (K u1 u2 u3 u4 u5 c)) ?_ ?_
     ·intro u1 u2 u3 u4 u5 c hu1 hu4 hc1 hc2
      obtain ⟨f,d0,t0,y1,y2,_⟩:=TT hL (a:=c) (by omega) (by omega) 100 (by omega)
      rw [t0]; simp only [Option.bind_some]
      refine Wa (Vn j a (m + 1) (x2.length + (many - x5).toNat)) (fun K=>∀ t0 t1 t2 t3 t4 t5 t6 t7 t8 c,t0 ∈ Zn → t3 ∈ HJ → t4 ∈ Zm → t5 ∈ DW → a ≤ c → c ≤ a + 17 → Vn j a (m + 1) (x2.length + (many - x5).toNat) (K t0 t1 t2 t3 t4 t5 t6 t7 t8 c)) ?_ ?_
      ·intro q0 q1 q2 q3 q4 q5 q6 q7 q8 c hq0 hq3 hq4 hq5 hc1 hc2
       have hw4 : W (x4 + v1) = x4 + v1:=Ox (by omega) (by omega)
       rw [Gn (by unfold Sq; exact decide_eq_true (by omega)),Ox (n:=x5 + 1) (by omega) (by omega)]
       obtain ⟨mm,x,b,r1,r2,r3,r4,r5⟩:=QP many hm j m _ (x2 ++ [Dx.mk q0 q1 (W (x4 + v1)) q2 q3 q4 q5 q6 q7 u4 q8]) c (W (x4 + v1)) (x5 + 1) (by omega) (by omega) (by omega) (by omega) (by simp; omega) hx' (by omega) (by omega) (fun d hd=>by
        rcases List.mem_append.1 hd with hd | hd
        ·exact hN d hd
        ·rw [List.mem_singleton] at hd
         subst hd
         exact ⟨hq0,hq3,hq4,hq5,hu4,by show 0 ≤ W (x4 + v1) ∧ W (x4 + v1) ≤ 80; omega⟩)
       exact ⟨mm,x,b,r1,by omega,by push_cast; omega,by simp at r4; omega,r5⟩
      ·intro K7 hK7
       have hno : Vn j a (m + 1) (x2.length + (many - x5).toNat) (K7 v2 (El (Gw x1 v2 (W ((El x1 v2 0) + 1))) v2 0) v3 s1 u1 s2 u2 u3 u5 d0):=hK7 _ _ _ _ _ _ _ _ _ _ hv2' hs1 hu1 hs2 (by omega) (by omega)
       cases f with
       | false=>rw [if_neg (by simp)]; exact hno
       | true =>
        rw [if_pos rfl]
        obtain ⟨n,d1,t1,y3,y4,_⟩:=next_dr hL (a:=d0) (by omega) (by omega) 4 (by omega)
        rw [t1]; simp only [Option.bind_some]
        refine Wa (Vn j a (m + 1) (x2.length + (many - x5).toNat)) (fun K=>∀ t0 t1 t2 t3 t4 t5 t6 t7 t8 c,t0 ∈ Zn → t3 ∈ HJ → t4 ∈ Zm → t5 ∈ DW → a ≤ c → c ≤ a + 17 → Vn j a (m + 1) (x2.length + (many - x5).toNat) (K t0 t1 t2 t3 t4 t5 t6 t7 t8 c)) ?_ ?_
        ·exact hK7
        intro K8 hK8
        refine Wa (Vn j a (m + 1) (x2.length + (many - x5).toNat)) (fun K=>∀ t0 t1 t2 t3 t4 t5 t6 t7 t8 c,t0 ∈ Zn → t3 ∈ HJ → t4 ∈ Zm → t5 ∈ DW → a ≤ c → c ≤ a + 17 → Vn j a (m + 1) (x2.length + (many - x5).toNat) (K t0 t1 t2 t3 t4 t5 t6 t7 t8 c)) ?_ ?_
        ·exact hK8
        intro K9 hK9
        split
        ·skip
         obtain ⟨z1,m1,oz1,pz1,qz1,hz1⟩:=Yz hL (a:=d1) (by omega) (by omega) [An,Tw] (by simp) (by simp)
         rw [oz1]; simp only [Option.bind_some]
         obtain ⟨z2,m2,oz2,pz2,qz2,_⟩:=KJ hL (a:=m1) (by omega) (by omega) 1 9 (by omega) (by omega) (by omega)
         rw [oz2]; simp only [Option.bind_some]
         exact hK9 _ _ _ _ _ _ _ _ _ _ (by simp only [List.mem_cons,List.not_mem_nil,or_false] at hz1; unfold Zn; rcases hz1 with rfl | rfl <;> simp) hs1 hu1 hs2 (by omega) (by omega)
        ·refine Wa (Vn j a (m + 1) (x2.length + (many - x5).toNat)) (fun K=>∀ t0 t1 t2 t3 t4 t5 t6 c,t1 ∈ HJ → t2 ∈ Zm → t3 ∈ DW → a ≤ c → c ≤ a + 17 → Vn j a (m + 1) (x2.length + (many - x5).toNat) (K t0 t1 t2 t3 t4 t5 t6 c)) ?_ ?_
         ·intro q0 q1 q2 q3 q4 q5 q6 c hq1 hq2 hq3 hc1 hc2; exact hK9 _ _ _ _ _ _ _ _ _ _ hv2' hq1 hq2 hq3 (by omega) (by omega)
         intro K10 hK10
         split
         ·skip
          obtain ⟨z1,m1,oz1,pz1,qz1,_⟩:=KJ hL (a:=d1) (by omega) (by omega) 1 4 (by omega) (by omega) (by omega)
          rw [oz1]; simp only [Option.bind_some]
          exact hK10 _ _ _ _ _ _ _ _ hs1 hu1 hs2 (by omega) (by omega)
         ·refine Wa (Vn j a (m + 1) (x2.length + (many - x5).toNat)) (fun K=>∀ t0 t1 t2 t3 t4 t5 c,t0 ∈ HJ → t1 ∈ Zm → t2 ∈ DW → a ≤ c → c ≤ a + 17 → Vn j a (m + 1) (x2.length + (many - x5).toNat) (K t0 t1 t2 t3 t4 t5 c)) ?_ ?_
          ·intro q0 q1 q2 q3 q4 q5 c hq0 hq1 hq2 hc1 hc2; exact hK10 _ _ _ _ _ _ _ _ hq0 hq1 hq2 (by omega) (by omega)
          intro K11 hK11
          split
          ·skip
           obtain ⟨z1,m1,oz1,pz1,qz1,hz1⟩:=Yz hL (a:=d1) (by omega) (by omega) [An,Yg] (by simp) (by simp)
           rw [oz1]; simp only [Option.bind_some]
           obtain ⟨z2,m2,oz2,pz2,qz2,hz2⟩:=Yz hL (a:=m1) (by omega) (by omega) [k_A,Uv] (by simp) (by simp)
           rw [oz2]; simp only [Option.bind_some]
           obtain ⟨z3,m3,oz3,pz3,qz3,hz3⟩:=Yz hL (a:=m2) (by omega) (by omega) [An,Rj] (by simp) (by simp)
           rw [oz3]; simp only [Option.bind_some]
           simp only [List.mem_cons,List.not_mem_nil,or_false] at hz1 hz2 hz3
           exact hK11 _ _ _ _ _ _ _ (by unfold HJ; rcases hz1 with rfl | rfl <;> simp) (by unfold Zm; rcases hz2 with rfl | rfl <;> simp) (by unfold DW; rcases hz3 with rfl | rfl <;> simp) (by omega) (by omega)
          ·skip
           obtain ⟨z1,m1,oz1,pz1,qz1,_⟩:=KJ hL (a:=d1) (by omega) (by omega) 0 360000 (by omega) (by omega) (by omega)
           rw [oz1]; simp only [Option.bind_some]
           obtain ⟨z2,m2,oz2,pz2,qz2,_⟩:=KJ hL (a:=m1) (by omega) (by omega) 0 8 (by omega) (by omega) (by omega)
           rw [oz2]; simp only [Option.bind_some]
           obtain ⟨z3,m3,oz3,pz3,qz3,_⟩:=KJ hL (a:=m2) (by omega) (by omega) 0 5 (by omega) (by omega) (by omega)
           rw [oz3]; simp only [Option.bind_some]
           exact hK11 _ _ _ _ _ _ _ hs1 hu1 hs2 (by omega) (by omega)
     ·intro K3 hK3
      refine Wa (Vn j a (m + 1) (x2.length + (many - x5).toNat)) (fun K=>∀ t0 t1 t2 t3 t4 c,t0 ∈ Zm → t3 ∈ Zn → a ≤ c → c ≤ a + 8 → Vn j a (m + 1) (x2.length + (many - x5).toNat) (K t0 t1 t2 t3 t4 c)) ?_ ?_
      ·exact hK3
      intro K4 hK4
      split
      ·skip
       obtain ⟨z1,m1,oz1,pz1,qz1,hz1⟩:=Yz hL (a:=c) (by omega) (by omega) [Uv,FA,An] (by simp) (by simp)
       rw [oz1]; simp only [Option.bind_some]
       obtain ⟨z2,m2,oz2,pz2,qz2,_⟩:=Ta hL (a:=m1) (by omega) (by omega) [0,5900,6000,7000] (by simp) (by simp)
       rw [oz2]; simp only [Option.bind_some]
       simp only [List.mem_cons,List.not_mem_nil,or_false] at hz1
       exact hK4 _ _ _ _ _ _ (by unfold Zm; rcases hz1 with rfl | rfl | rfl <;> simp) MY.2.2.2 (by omega) (by omega)
      ·refine Wa (Vn j a (m + 1) (x2.length + (many - x5).toNat)) (fun K=>∀ t0 t1 t2 t3 c,t2 ∈ Zn → a ≤ c → c ≤ a + 8 → Vn j a (m + 1) (x2.length + (many - x5).toNat) (K t0 t1 t2 t3 c)) ?_ ?_
       ·intro q0 q1 q2 q3 c hq2 hc1 hc2; exact hK4 _ _ _ _ _ _ MY.2.1 hq2 (by omega) (by omega)
       intro K5 hK5
       split
       ·skip
        obtain ⟨z1,m1,oz1,pz1,qz1,_⟩:=Ta hL (a:=c) (by omega) (by omega) [0,5900,5900,6000,6100] (by simp) (by simp)
        rw [oz1]; simp only [Option.bind_some]
        obtain ⟨z2,m2,oz2,pz2,qz2,_⟩:=Ta hL (a:=m1) (by omega) (by omega) [0,0,0,0,3] (by simp) (by simp)
        rw [oz2]; simp only [Option.bind_some]
        exact hK5 _ _ _ _ _ MY.2.2.2 (by omega) (by omega)
       ·refine Wa (Vn j a (m + 1) (x2.length + (many - x5).toNat)) (fun K=>∀ t0 t1 c,t0 ∈ Zn → a ≤ c → c ≤ a + 8 → Vn j a (m + 1) (x2.length + (many - x5).toNat) (K t0 t1 c)) ?_ ?_
        ·intro q0 q1 c hq0 hc1 hc2; exact hK5 _ _ _ _ _ hq0 (by omega) (by omega)
        intro K6 hK6
        split
        ·skip
         obtain ⟨z1,m1,oz1,pz1,qz1,hz1⟩:=Yz hL (a:=c) (by omega) (by omega) [Tw,Tw,HT] (by simp) (by simp)
         rw [oz1]; simp only [Option.bind_some]
         have hb : HM 1 (El (Gw x1 v2 (W ((El x1 v2 0) + 1))) Tw 0) ≤ 1000:=by
          have hz:=(hx' Tw).2
          have hmx : ∀ z : Int,z ≤ x5 + 1 → HM 1 z ≤ 1000:=fun z hz=>by
           unfold HM
           by_cases hq : z > 1
           ·rw [if_pos hq]; omega
           ·rw [if_neg hq]; omega
          exact hmx _ hz
         obtain ⟨z2,m2,oz2,pz2,qz2,_⟩:=DT hL (a:=m1) (by omega) (by omega) 1 (HM 1 (El (Gw x1 v2 (W ((El x1 v2 0) + 1))) Tw 0)) (by omega) (by omega) (by omega)
         rw [oz2]; simp only [Option.bind_some]
         simp only [List.mem_cons,List.not_mem_nil,or_false] at hz1
         exact hK6 _ _ _ (by unfold Zn; rcases hz1 with rfl | rfl | rfl <;> simp) (by omega) (by omega)
        ·exact hK6 _ _ _ MY.2.2.2 (by omega) (by omega)
    ·intro K hK
     split
     ·obtain ⟨w1,c1,t1,q1,q2,hw1⟩:=Yz hL (a:=b3) (by omega) (by omega) [Yg,CS,CT,CU] (by simp) (by simp)
      rw [t1]; simp only [Option.bind_some]
      obtain ⟨w2,c2,t2,q3,q4,hw2⟩:=Yz hL (a:=c1) (by omega) (by omega) [Rj,Rj,Uu,RM] (by simp) (by simp)
      rw [t2]; simp only [Option.bind_some]
      simp only [List.mem_cons,List.not_mem_nil,or_false] at hw1 hw2
      exact hK _ _ _ (by unfold HJ; rcases hw1 with rfl | rfl | rfl | rfl <;> simp) (by unfold DW; rcases hw2 with rfl | rfl | rfl | rfl <;> simp) (by omega) (by omega)
     ·exact hK _ _ _ MY.1 MY.2.2.1 (by omega) (by omega)
  ·rw [if_neg (by simpa using hc)]
   exact ⟨x1,x2,a,rfl,by omega,by omega,by omega,hN⟩
theorem VV (many : Int) (h0 : 0 ≤ many) (hm : many ≤ 16) {a : Int} (ha : 0 ≤ a) (ha' : a ≤ 5000000) : ∃ l b,Wu L a many = some (l,b) ∧ a ≤ b ∧ b ≤ a + 400 ∧ (l.length : Int) ≤ many ∧ ∀ d ∈ l,MX d:=by
 obtain ⟨k,rfl⟩:=Int.eq_ofNat_of_zero_le h0
 unfold Wu
 simp only [Og]
 obtain ⟨mm,x,b,e,g1,g2,g3,g4⟩:=QP hL (k : Int) (by omega) (fun (x1 : List (ByteArray × Int)) (x2 : List Dx) (x3 : Int)=>Option.bind (Ig x2) (fun r23=>some (r23,x3))) (k + 1) [] [] a 0 0 (by omega) (by omega) ha (by omega) (by simp; omega) (by simp [El,Pi,Od]) (by omega) (by omega) (fun _ h=>by cases h)
 simp only [List.length_nil,Nat.zero_add] at g3
 rw [show (((k : Int) - 0).toNat + 2) = k + 1 + 1 by omega,e]
 dsimp only
 rw [RY x (by omega)]
 exact ⟨_,_,rfl,g1,by push_cast at g2; omega,by rw [Xu]; omega,fun d hd=>g4 d ((Xt _ _ _).1 hd)⟩
theorem QQ (many : Int) (h0 : 0 ≤ many) (hm : many ≤ 16) : ∀ (m : Nat) (a x : Int),0 ≤ x ∧ x ≤ 5 → 5 - x < (m : Int) → 0 ≤ a → a + 400 * m ≤ 5000000 →
  ∃ l b,Ko L many (fun x1=>some (([] : List Dx),x1)) m a x = some (l,b) ∧ a ≤ b ∧ b ≤ a + 400 * m ∧ (l.length : Int) ≤ many ∧ DsG l ∧ ∀ d ∈ l,MX d
 | 0,a,x,h1,h2,_,_=>by omega
 | m + 1,a,x,h1,h2,h3,h4=>by
  rw [Ko]
  by_cases hc : x < 5
  ·rw [if_pos (decide_eq_true hc)]
   obtain ⟨l,b,e,g1,g2,g3,g4⟩:=VV hL many h0 hm (a:=a) h3 (by omega)
   rw [e]; simp only [Option.bind_some]
   obtain ⟨f,_,f2,f3⟩:=RW l
   rw [f2]; simp only [Option.bind_some]
   by_cases hf : f = 0
   ·rw [if_pos (decide_eq_true hf)]
    exact ⟨l,b,rfl,g1,by push_cast; omega,g3,f3 hf,g4⟩
   ·rw [if_neg (by simpa using hf),Ox (by omega) (by omega)]
    obtain ⟨l2,b2,e2,q1,q2,q3,q4⟩:=QQ many h0 hm m b (x + 1) (by omega) (by omega) (by omega) (by omega)
    exact ⟨l2,b2,e2,by omega,by push_cast; omega,q3,q4⟩
  ·rw [if_neg (by simpa using hc)]
   exact ⟨[],a,rfl,by omega,by push_cast; omega,by simp; omega,⟨by simp,by simp,fun d x y r h=>by simp at h,by simp⟩,fun _ h=>by cases h⟩
theorem VW (many : Int) (h0 : 0 ≤ many) (hm : many ≤ 16) {a : Int} (ha : 0 ≤ a) (ha' : a ≤ 1000000) : ∃ l b,Ql L a many = some (l,b) ∧ a ≤ b ∧ b ≤ a + 2800 ∧ (l.length : Int) ≤ many ∧ DsG l ∧ ∀ d ∈ l,MX d:=by
 unfold Ql
 rw [Og]
 obtain ⟨l,b,e,g1,g2,g3,g4⟩:=QQ hL many h0 hm 7 a 0 (by omega) (by omega) ha (by omega)
 exact ⟨l,b,e,g1,by omega,g3,g4⟩
end
end Go.Proofs.YtancihamhcdboaaGreatDoor
namespace Go.Proofs.YtancihamhcdboaaGreatDoor
open Go
theorem UI (P : List Em) (v : Em) (Q : List Em) : nth (P ++ v :: Q) (P.length : Int) = v:=by unfold nth; simp
theorem UJ (P : List Em) (v u : Em) (Q : List Em) : (P ++ v :: Q).set P.length u = P ++ u :: Q:=by simp
theorem YB (j : List Em → Option (List Em)) : ∀ (k m : Nat) (A M B : List Em),M.length ≤ k → M.length < m → A.length + M.length + B.length ≤ 1000000 →
  Jl j m (A ++ (M ++ B)) (A.length : Int) ((A.length : Int) + (M.length : Int) - 1) = j (A ++ (M.reverse ++ B))
 | k,0,A,M,B,_,h,_=>by omega
 | k,m + 1,A,M,B,hk,hm,hl=>by
  rw [Jl]
  match M,hk,hm,hl with
  | [],_,_,_=>rw [if_neg (by simp; omega)]; rfl
  | [z],_,_,_=>rw [if_neg (by simp)]; rfl
  | a :: z :: M1,hk,hm,hl =>
   obtain ⟨M2,b,hM⟩ : ∃ M2 b,z :: M1 = M2 ++ [b]:=by
    rcases List.eq_nil_or_concat (z :: M1) with h | ⟨M2,b,h⟩
    ·cases h
    ·exact ⟨M2,b,by rw [h]; simp⟩
   rw [hM] at hk hm hl ⊢
   simp only [List.length_cons,List.length_append,List.length_nil] at hk hm hl ⊢
   have hlen : (A ++ (a :: (M2 ++ [b]) ++ B)).length = A.length + M2.length + 2 + B.length:=by simp; omega
   have e3 : (A.length : Int) + ((M2.length + (0 + 1) + 1 : Nat) : Int) - 1 = ((A.length + M2.length + 1 : Nat) : Int):=by omega
   rw [e3,if_pos (decide_eq_true (by omega))]
   have n2 : nth (A ++ (a :: (M2 ++ [b]) ++ B)) (A.length : Int) = a:=by rw [List.cons_append]; exact UI _ _ _
   have h1 : A ++ (a :: (M2 ++ [b]) ++ B) = (A ++ a :: M2) ++ b :: B:=by simp
   have h2 : (A ++ a :: M2).length = A.length + M2.length + 1:=by simp; omega
   have n3 : nth (A ++ (a :: (M2 ++ [b]) ++ B)) ((A.length + M2.length + 1 : Nat) : Int) = b:=by
    rw [h1,← h2]; exact UI _ _ _
   have hs : ((A ++ (a :: (M2 ++ [b]) ++ B)).set ((A.length : Int)).toNat b).set (((A.length + M2.length + 1 : Nat) : Int)).toNat a = (A ++ [b]) ++ (M2 ++ (a :: B)):=by
    rw [Int.toNat_natCast,Int.toNat_natCast]
    have q1 : (A ++ (a :: (M2 ++ [b]) ++ B)).set A.length b = (A ++ b :: M2) ++ b :: B:=by
     rw [List.cons_append,UJ]; simp
    have q2 : (A ++ b :: M2).length = A.length + M2.length + 1:=by simp; omega
    rw [q1,← q2,UJ]
    simp
   rw [Gn (Ju.2 (by omega)),Gn (Ju.2 (by omega)),Gn (Ju.2 (by omega)),Gn (Ju.2 (by rw [List.length_set]; omega)),n2,n3,hs,Ox (by omega) (by omega),Ox (by omega) (by omega)]
   have ih:=YB j (k - 2) m (A ++ [b]) M2 (a :: B) (by omega) (by omega) (by simp; omega)
   have e1 : (((A ++ [b]).length : Nat) : Int) = (A.length : Int) + 1:=by simp
   rw [e1] at ih
   have e2 : (A.length : Int) + 1 + (M2.length : Int) - 1 = ((A.length + M2.length + 1 : Nat) : Int) - 1:=by omega
   rw [e2] at ih
   rw [ih]
   simp
theorem QR (l : List Em) (hl : l.length ≤ 1000000) : Qp l = some l.reverse:=by
 unfold Qp
 rw [Kt,Ox (by omega) (by omega)]
 have h:=YB (fun x=>some x) l.length (((l.length : Int) - 1 - 0).toNat + 2) [] l [] (Nat.le_refl _) (by omega) (by simp; omega)
 simpa using h
theorem VX {s : ByteArray} (h : s ∈ [Rj,Uu,Xi]) : Gy s = some true:=by
 have key : ∀ s ∈ [Rj,Uu,Xi],Gy s = some true:=by decide +kernel
 exact key s h
section
variable {L : List Int} (hL : HD L)
include hL
theorem YC {a : Int} (h0 : 0 ≤ a) (h1 : a ≤ 100000000) (key : ByteArray) (hk : key ∈ [Rj,Uu,Xi]) : Dr a 7 (fun r=>r.Key = key ∧ Pc r = some 0) (Tx L a key):=by
 unfold Tx
 obtain ⟨v1,b1,e1,g1,g2,q1⟩:=Ta hL h0 (by omega) [50,100,200] (by simp) (by simp)
 rw [e1]; simp only [Option.bind_some]
 obtain ⟨v2,b2,e2,g3,g4,q2⟩:=Ta hL (a:=b1) (by omega) (by omega) [1,2,3,4] (by simp) (by simp)
 rw [e2]; simp only [Option.bind_some]
 obtain ⟨v3,b3,e3,g5,g6,q3⟩:=Ta hL (a:=b2) (by omega) (by omega) [25,50] (by simp) (by simp)
 rw [e3]; simp only [Option.bind_some]
 obtain ⟨v4,b4,e4,g7,g8,q4⟩:=Ta hL (a:=b3) (by omega) (by omega) [1,1,1,4] (by simp) (by simp)
 rw [e4]; simp only [Option.bind_some]
 obtain ⟨v5,b5,e5,g9,g10,q5⟩:=Ta hL (a:=b4) (by omega) (by omega) [0,1,2] (by simp) (by simp)
 rw [e5]; simp only [Option.bind_some]
 obtain ⟨v6,b6,e6,g11,g12,q6⟩:=Ta hL (a:=b5) (by omega) (by omega) [0,0,5,10] (by simp) (by simp)
 rw [e6]; simp only [Option.bind_some]
 obtain ⟨v7,b7,e7,g13,g14,q7⟩:=Ta hL (a:=b6) (by omega) (by omega) [0,5,90] (by simp) (by simp)
 rw [e7]; simp only [Option.bind_some]
 refine ⟨_,_,rfl,by omega,by omega,rfl,?_⟩
 simp only [List.mem_cons,List.not_mem_nil,or_false] at q1 q2 q3 q4 q5 q6 q7
 have w : W (v6 + v7) = v6 + v7:=Ox (by omega) (by omega)
 unfold Pc
 simp only [VX hk,Option.bind_some,Bool.not_true,Bool.false_eq_true,if_false,Kt,w]
 have c1 : ((!(Ed v2 1 5)) || (!(Ed v5 0 2))) = false:=by
  unfold Ed; simp; omega
 have c2 : (((((((!decide (v3 = 25)) && (!decide (v3 = 50))) || (!(Ed v4 1 4))) || (!(Ed v1 25 1500))) || (decide (v6 < 0))) || (decide (v6 + v7 < v6))) || (decide (120 < v6 + v7))) = false:=by
  unfold Ed; simp; omega
 have c3 : (!decide (v3 = 0)) = true:=by simp; omega
 have c4 : (!decide (Int.tmod v1 v3 = 0)) = false:=by rcases q1 with rfl | rfl | rfl <;> rcases q3 with rfl | rfl <;> decide +kernel
 have c5 : decide (v2 = 5) = false:=by simp; omega
 simp only [c1,c2,Gn c3,c4,c5,Bool.false_eq_true,if_false,Bool.false_and]
theorem KU : ∀ (ys : List ByteArray) (i : Nat) (x1 : List Em) (a : Int),0 ≤ a → a + 8 * ys.length ≤ 10000000 → x1.length + ys.length ≤ 1000 → (∀ y ∈ ys,y ∈ [Rj,Uu,Xi]) → ys.Nodup → (∀ x ∈ x1,(Pc x = some 0 ∧ x.Key ∈ [Rj,Uu,Xi]) ∧ x.Key ∉ ys) → (x1.map (·.Key)).Nodup →
  ∃ x b,Lh L (fun x a=>some (x,a)) ys i x1 a = some (x,b) ∧ a ≤ b ∧ b ≤ a + 8 * ys.length ∧ x.length ≤ x1.length + ys.length ∧ (∀ z ∈ x,Pc z = some 0 ∧ z.Key ∈ [Rj,Uu,Xi]) ∧ (x.map (·.Key)).Nodup
 | [],i,x1,a,_,_,_,_,_,h5,h6=>⟨x1,a,rfl,Int.le_refl _,by simp,by simp,fun z hz=>(h5 z hz).1,h6⟩
 | y :: ys,i,x1,a,h0,h1,h2,h3,h4,h5,h6=>by
  rw [Lh]
  rw [List.nodup_cons] at h4
  simp only [List.length_cons] at h1 h2 ⊢
  obtain ⟨f,b,e,g1,g2,_⟩:=TT hL h0 (by omega) 6 (by omega)
  rw [e]; simp only [Option.bind_some,Kt]
  cases f with
  | true =>
   rw [if_neg (by simp)]
   obtain ⟨x,c,e',g3,g4,g5,g6,g7⟩:=KU ys (i + 1) x1 b (by omega) (by omega) (by omega) (fun z hz=>h3 z (List.mem_cons_of_mem _ hz)) h4.2 (fun x hx=>⟨(h5 x hx).1,fun hz=>(h5 x hx).2 (List.mem_cons_of_mem _ hz)⟩) h6
   exact ⟨x,c,e',by omega,by omega,by omega,g6,g7⟩
  | false =>
   rw [if_pos (by simp)]
   obtain ⟨s,b2,e2,g3,g4,q1,q2⟩:=YC hL (a:=b) (by omega) (by omega) y (h3 y List.mem_cons_self)
   rw [e2]; simp only [Option.bind_some]
   rw [Gn (by unfold Sq; simp; omega)]
   obtain ⟨x,c,e',g7,g8,g9,g10,g11⟩:=KU ys (i + 1) (x1 ++ [s]) b2 (by omega) (by omega) (by simp; omega) (fun z hz=>h3 z (List.mem_cons_of_mem _ hz)) h4.2
    (fun x hx=>by
     rcases List.mem_append.1 hx with h | h
     ·exact ⟨(h5 x h).1,fun hz=>(h5 x h).2 (List.mem_cons_of_mem _ hz)⟩
     ·rw [List.mem_singleton] at h; subst h; exact ⟨⟨q2,by rw [q1]; exact h3 y List.mem_cons_self⟩,by rw [q1]; exact h4.1⟩)
    (by
     rw [List.map_append,List.nodup_append]
     refine ⟨h6,by simp,fun u hu v hv=>?_⟩
     simp only [List.map_cons,List.map_nil,List.mem_singleton] at hv
     obtain ⟨x,hx,rfl⟩:=List.mem_map.1 hu
     rw [hv,q1]
     rintro e
     exact (h5 x hx).2 (by rw [e]; exact List.mem_cons_self))
   simp only [List.length_append,List.length_singleton] at g9
   exact ⟨x,c,e',by omega,by omega,by omega,g10,g11⟩
end
structure Zo (p : Kq) : Prop where
 few : p.Races.length ≤ 3
 races : ∀ r ∈ p.Races,Pc r = some 0 ∧ r.Key ∈ [Rj,Uu,Xi]
 keys : (p.Races.map (·.Key)).Nodup
 table : MW p.Table
 final : Ry p.Final = 0
theorem YD {L : List Int} (hL : HD L) {a : Int} (h0 : 0 ≤ a) (h1 : a ≤ 50000) : Dr a 37 Zo (Rd L a):=by
 unfold Rd Vg
 simp only [Og]
 obtain ⟨x,b1,e1,p1,q1,x1,x2,x3⟩:=KU hL [Rj,Uu,Xi] 0 [] a h0 (by simp; omega) (by simp) (fun _ h=>h) (by decide +kernel) (fun _ h=>by cases h) (by simp)
 simp only [List.length_cons,List.length_nil,Nat.zero_add] at q1 x1
 rw [e1]; simp only [Option.bind_some]
 obtain ⟨t,b2,e2,p2,q2,t1⟩:=XZ hL (a:=b1) (by omega) (by omega)
 rw [e2]; simp only [Option.bind_some]
 obtain ⟨v3,b3,e3,p3,q3,m3,n3⟩:=DT hL (a:=b2) (by omega) (by omega) 1 3 (by omega) (by omega) (by omega)
 rw [e3]; simp only [Option.bind_some]
 obtain ⟨v4,b4,e4,p4,q4,m4,n4⟩:=DT hL (a:=b3) (by omega) (by omega) 1 2 (by omega) (by omega) (by omega)
 rw [e4]; simp only [Option.bind_some]
 obtain ⟨v5,b5,e5,p5,q5,m5,n5⟩:=DT hL (a:=b4) (by omega) (by omega) 0 2 (by omega) (by omega) (by omega)
 rw [e5]; simp only [Option.bind_some]
 rw [QR x (by omega)]; simp only [Option.bind_some]
 refine ⟨_,_,rfl,by omega,by push_cast at q1; omega,?_⟩
 refine ⟨by simp only [List.length_reverse]; omega,fun r hr=>x2 r (List.mem_reverse.1 hr),by rw [List.map_reverse]; exact (List.reverse_perm _).nodup_iff.2 x3,t1,?_⟩
 unfold Ry
 rw [if_neg]
 simp only [Ed,Bool.not_and,Bool.or_eq_true,Bool.not_eq_true',decide_eq_false_iff_not]
 simp
 omega
theorem contP (y : Em) : ∀ (l : List Em) (i : Nat),y.Key ∉ l.map (·.Key) → Gm y (-1) l i = -1
 | [],_,_=>rfl
 | x :: l,i,h=>by
  simp only [List.map_cons,List.mem_cons,not_or] at h
  rw [Gm]
  unfold Ul
  rw [if_neg (by simp only [decide_eq_true_eq]; exact fun e=>h.1 e.symm)]
  exact contP y l (i + 1) h.2
theorem IR (p : Kq) (h : Zo p) (j : Option Int) : ∀ (ys dn : List Em),p.Races = dn ++ ys → Mn p j ys dn.length = j
 | [],_,_=>rfl
 | y :: ys,dn,he=>by
  have hy : y ∈ p.Races:=by rw [he]; simp
  have hc : cut p.Races 0 (dn.length : Int) = dn:=by rw [he]; unfold cut; simp
  have hk:=h.keys
  rw [he,List.map_append,List.map_cons,List.nodup_append] at hk
  have hn : y.Key ∉ dn.map (·.Key):=fun hm=>hk.2.2 _ hm _ List.mem_cons_self rfl
  rw [Mn,(h.races y hy).1]
  simp only [Option.bind_some,decide_true,Bool.not_true,Bool.false_eq_true,if_false]
  rw [Gn (Wn.2 (by rw [he]; simp; omega)),hc]
  have hf : Jd dn y = false:=by
   unfold Jd Lm
   rw [Og,contP y dn 0 hn]
   rfl
  rw [hf,if_neg (by simp)]
  have:=IR p h j ys (dn ++ [y]) (by rw [he]; simp)
  rwa [List.length_append,List.length_singleton] at this
theorem OL {p : Kq} (h : Zo p) : Ux p = some 0:=by
 have:=h.few
 unfold Ux
 rw [if_neg (by simp; omega),Og]
 have hl:=IR p h (Option.bind (Pt p.Table) fun r2=>if !decide (r2 = 0) then some r2 else some (Ry p.Final)) p.Races [] rfl
 rw [List.length_nil] at hl
 rw [hl,QO h.table]
 simp only [Option.bind_some,decide_true,Bool.not_true,Bool.false_eq_true,if_false,h.final]
end Go.Proofs.YtancihamhcdboaaGreatDoor
