/- Plans of meets that the stream gives: they are right. No program stands here but its twins. -/
import Derived.Test.YtfcmmengcdebnaaGreatDoorPMeetSort
/- Deeds that count,where none is undone. No program stands here but its twins. -/
namespace Go.Proofs.YtfcmmengcdebnaaGreatDoor
open Go
theorem RH (P : List Int) (v : Int) (Q : List Int) : nth (P ++ v :: Q) (P.length : Int) = v:=by unfold nth; simp
theorem RI (P : List Int) (v u : Int) (Q : List Int) : (P ++ v :: Q).set P.length u = P ++ u :: Q:=by simp
theorem rev_l (j : List Int → Option (List Int)) : ∀ (k m : Nat) (A M B : List Int),M.length ≤ k → M.length < m → A.length + M.length + B.length ≤ 1000000 →
  Jl j m (A ++ (M ++ B)) (A.length : Int) ((A.length : Int) + (M.length : Int) - 1) = j (A ++ (M.reverse ++ B))
 | k,0,A,M,B,_,h,_=>by omega
 | k,m + 1,A,M,B,hk,hm,hl=>by
  rw [Jl]
  match M,hk,hm,hl with
  | [],_,_,_=>rw [if_neg (by simp; omega)]; rfl
  | [z],_,_,_=>rw [if_neg (by simp)]; rfl
  | a :: z :: M1,hk,hm,hl =>
   obtain ⟨M2,b,hM⟩ : ∃ M2 b,z :: M1 = M2 ++ [b]:=by
    rcases List.eq_nil_or_concat (z :: M1) with h | ⟨M2,b,h⟩
    ·cases h
    ·exact ⟨M2,b,by rw [h]; simp⟩
   rw [hM] at hk hm hl ⊢
   simp only [List.length_cons,List.length_append,List.length_nil] at hk hm hl ⊢
   have hlen : (A ++ (a :: (M2 ++ [b]) ++ B)).length = A.length + M2.length + 2 + B.length:=by simp; omega
   have e3 : (A.length : Int) + ((M2.length + (0 + 1) + 1 : Nat) : Int) - 1 = ((A.length + M2.length + 1 : Nat) : Int):=by omega
   rw [e3,if_pos (decide_eq_true (by omega))]
   have n2 : nth (A ++ (a :: (M2 ++ [b]) ++ B)) (A.length : Int) = a:=by rw [List.cons_append]; exact RH _ _ _
   have h1 : A ++ (a :: (M2 ++ [b]) ++ B) = (A ++ a :: M2) ++ b :: B:=by simp
   have h2 : (A ++ a :: M2).length = A.length + M2.length + 1:=by simp; omega
   have n3 : nth (A ++ (a :: (M2 ++ [b]) ++ B)) ((A.length + M2.length + 1 : Nat) : Int) = b:=by
    rw [h1,← h2]; exact RH _ _ _
   have hs : ((A ++ (a :: (M2 ++ [b]) ++ B)).set ((A.length : Int)).toNat b).set (((A.length + M2.length + 1 : Nat) : Int)).toNat a = (A ++ [b]) ++ (M2 ++ (a :: B)):=by
    rw [Int.toNat_natCast,Int.toNat_natCast]
    have q1 : (A ++ (a :: (M2 ++ [b]) ++ B)).set A.length b = (A ++ b :: M2) ++ b :: B:=by
     rw [List.cons_append,RI]; simp
    have q2 : (A ++ b :: M2).length = A.length + M2.length + 1:=by simp; omega
    rw [q1,← q2,RI]
    simp
   rw [Fx (Jf.2 (by omega)),Fx (Jf.2 (by omega)),Fx (Jf.2 (by omega)),Fx (Jf.2 (by rw [List.length_set]; omega)),n2,n3,hs,Nu (by omega) (by omega),Nu (by omega) (by omega)]
   have ih:=rev_l j (k - 2) m (A ++ [b]) M2 (a :: B) (by omega) (by omega) (by simp; omega)
   have e1 : (((A ++ [b]).length : Nat) : Int) = (A.length : Int) + 1:=by simp
   rw [e1] at ih
   have e2 : (A.length : Int) + 1 + (M2.length : Int) - 1 = ((A.length + M2.length + 1 : Nat) : Int) - 1:=by omega
   rw [e2] at ih
   rw [ih]
   simp
theorem PL (l : List Int) (hl : l.length ≤ 1000000) : Oq l = some l.reverse:=by
 unfold Oq
 rw [Jc,Nu (by omega) (by omega)]
 have h:=rev_l (fun x=>some x) l.length (((l.length : Int) - 1 - 0).toNat + 2) [] l [] (Nat.le_refl _) (by omega) (by simp; omega)
 simpa using h
theorem TJ (l : List Dk) : (List.range l.length).map (fun (i : Nat)=>nth l (i : Int)) = l:=by
 apply List.ext_getElem
 ·simp
 ·intro i h1 h2
  simp [nth,List.getD,List.getElem?_eq_getElem h2]
end Go.Proofs.YtfcmmengcdebnaaGreatDoor
/- Parts of a right list of deeds,and what they are merged to. No program stands here but its twins. -/
namespace Go.Proofs.YtfcmmengcdebnaaGreatDoor
open Go
theorem DG.chk {d : Dk} (h : DG d) : Qk d = some 0:=by
 have hno:=inW.2 h.no
 have hat : Hz d.At = true:=by unfold Hz; simpa using h.at_
 have hkd : Dv d.Kind 1 4 = true:=inW.2 (by rcases h.kind with h | h | h | h <;> omega)
 have hf:=h.form
 obtain ⟨kW,w1,_⟩:=Wa d.Who
 obtain ⟨kR,r1,_⟩:=Wa d.Race
 obtain ⟨kC,c1,_⟩:=Wa d.Club
 obtain ⟨kO,o1,_⟩:=Wa d.Of
 unfold Qk
 simp only [h.site,w1,r1,c1,o1,Option.bind_some,hno,hat,hkd,Jc,Bool.not_true,Bool.or_self,Bool.false_eq_true,if_false]
 rcases h.kind with hk | hk | hk | hk
 ·rw [if_pos hk,hk] at hf
  obtain ⟨q1,q2⟩:=h.who (by omega)
  obtain rfl : kW = true:=Option.some.inj (w1.symm.trans q1)
  obtain rfl : kR = true:=Option.some.inj (r1.symm.trans q2)
  have ht:=inW.2 (h.time (.inl hk))
  have hc : (!decide (d.Club = An) && !kC) = false:=by
   rcases h.club hk with hc | hc
   ·rw [hc]; rfl
   ·obtain rfl : kC = true:=Option.some.inj (c1.symm.trans hc)
    simp
  have hd:=decide_eq_true hf
  simp only [hk,hd,ht,hc,show decide ((1 : Int) = 1) = true from rfl,show decide ((1 : Int) = 3) = false from rfl,show decide ((1 : Int) = 4) = false from rfl,decide_true,decide_false,Bool.not_true,Bool.not_false,Bool.true_and,Bool.false_and,Bool.and_true,Bool.and_false,Bool.or_false,Bool.false_or,Bool.true_or,Bool.or_true,Bool.and_self,Bool.or_self,if_true,Bool.false_eq_true,if_false]
  cases decide (d.Club = An) <;> simp only [decide_true,decide_false,Bool.not_true,Bool.not_false,Bool.true_and,Bool.false_and,Bool.and_true,Bool.and_false,Bool.or_false,Bool.false_or,Bool.true_or,Bool.or_true,Bool.and_self,Bool.or_self,if_true,Bool.false_eq_true,if_false]
 ·rw [if_neg (by omega),if_neg (by omega),if_neg (by omega),hk] at hf
  obtain ⟨q1,q2⟩:=h.who (by omega)
  obtain rfl : kW = true:=Option.some.inj (w1.symm.trans q1)
  obtain rfl : kR = true:=Option.some.inj (r1.symm.trans q2)
  have hd:=decide_eq_true hf
  simp only [hk,hd,Bool.not_true,show decide ((2 : Int) = 1) = false from rfl,show decide ((2 : Int) = 3) = false from rfl,show decide ((2 : Int) = 4) = false from rfl,decide_true,decide_false,Bool.not_true,Bool.not_false,Bool.true_and,Bool.false_and,Bool.and_true,Bool.and_false,Bool.or_false,Bool.false_or,Bool.true_or,Bool.or_true,Bool.and_self,Bool.or_self,if_true,Bool.false_eq_true,if_false]
 ·rw [if_neg (by omega),if_pos hk,hk] at hf
  obtain ⟨q1,q2⟩:=h.who (by omega)
  obtain rfl : kW = true:=Option.some.inj (w1.symm.trans q1)
  obtain rfl : kR = true:=Option.some.inj (r1.symm.trans q2)
  have ht:=inW.2 (h.time (.inr hk))
  have hu:=inW.2 (h.fault hk)
  have hd:=decide_eq_true hf
  simp only [hk,hd,ht,hu,show decide ((3 : Int) = 1) = false from rfl,show decide ((3 : Int) = 3) = true from rfl,show decide ((3 : Int) = 4) = false from rfl,decide_true,decide_false,Bool.not_true,Bool.not_false,Bool.true_and,Bool.false_and,Bool.and_true,Bool.and_false,Bool.or_false,Bool.false_or,Bool.true_or,Bool.or_true,Bool.and_self,Bool.or_self,if_true,Bool.false_eq_true,if_false]
 ·rw [if_neg (by omega),if_neg (by omega),if_pos hk,hk] at hf
  obtain ⟨q1,q2⟩:=h.of_ hk
  obtain rfl : kO = true:=Option.some.inj (o1.symm.trans q1)
  have hu:=inW.2 q2
  have hd:=decide_eq_true hf
  simp only [hk,hd,hu,show decide ((4 : Int) = 1) = false from rfl,show decide ((4 : Int) = 3) = false from rfl,show decide ((4 : Int) = 4) = true from rfl,decide_true,decide_false,Bool.not_true,Bool.not_false,Bool.true_and,Bool.false_and,Bool.and_true,Bool.and_false,Bool.or_false,Bool.false_or,Bool.true_or,Bool.or_true,Bool.and_self,Bool.or_self,if_true,Bool.false_eq_true,if_false]
theorem DsG.sub {x p : List Dk} (h : DsG x) (s : p.Sublist x) : DsG p :=
 ⟨Nat.le_trans s.length_le h.len,fun y hy=>h.each y (s.subset hy),up_DAdj (h.adj.up.sublist s),h.nodup.sublist (s.map _)⟩
theorem chk_l (l : List Dk) (h : DsG l) (j : List (Eo × Bool) → Bool → Option Int) : ∀ (ys dn : List Dk) (m : List (Eo × Bool)),l = dn ++ ys → (∀ e,Ea m e false = decide (e ∈ dn.map Fd)) →
  ∃ m',Ib l j ys dn.length m false = j m' false
 | [],dn,m,_,_=>⟨m,rfl⟩
 | y :: ys,dn,m,hd,hm=>by
  have hl:=h.len
  have hlen : l.length = dn.length + (ys.length + 1):=by rw [hd]; simp
  have hy:=(h.each y (by rw [hd]; simp)).chk
  have hns : Fd y ∉ dn.map Fd:=fun hin=>by
   have hn:=h.nodup
   rw [hd,List.map_append,List.nodup_append] at hn
   exact hn.2.2 _ hin _ (by simp) rfl
  obtain ⟨m',e⟩:=chk_l l h j ys (dn ++ [y]) (Gl m (Fd y) true) (by rw [hd]; simp) (fun e=>by
   rw [Wt,hm e]
   by_cases h1 : e = Fd y
   ·rw [if_pos h1]; exact (decide_eq_true (by simp [h1])).symm
   ·rw [if_neg h1]; exact decide_eq_decide.2 (by simp [h1]))
  rw [List.length_append,List.length_singleton] at e
  refine ⟨m',?_⟩
  rw [Ib,hy]
  simp only [Option.bind_some,Jc,decide_true,Bool.not_true,Bool.false_eq_true,if_false,hm,decide_eq_false hns,Bool.or_self]
  by_cases h0 : (0 : Int) < (dn.length : Int)
  ·obtain ⟨d,x,hdx⟩ : ∃ d x,dn = d ++ [x]:=by
    rcases List.eq_nil_or_concat dn with h1 | ⟨d,x,h1⟩
    ·rw [h1] at h0; simp at h0
    ·exact ⟨d,x,by rw [h1]; simp⟩
   have hdl : dn.length = d.length + 1:=by rw [hdx]; simp
   have hw : W ((dn.length : Int) - 1) = (d.length : Int):=by rw [Nu (by omega) (by omega)]; omega
   have hn : nth l (d.length : Int) = x:=by rw [hd,hdx]; unfold nth; simp
   have hc : ¬ 0 ≤ Nb x y:=by
    have:=h.adj d x y ys (by rw [hd,hdx]; simp)
    omega
   simp only [h0,decide_true,if_true,hw,Fx (show inB (d.length : Int) l.length = true from Jf.2 (by omega)),hn,hc,decide_false,Bool.false_eq_true,if_false]
   exact e
  ·simp only [h0,decide_false,Bool.false_eq_true,if_false]
   exact e
theorem DsG.chk {l : List Dk} (h : DsG l) : Pl l = some 0:=by
 have hl:=h.len
 unfold Pl
 rw [if_neg (by simp; omega)]
 simp only [Jc]
 obtain ⟨m',e⟩:=chk_l l h (fun x1 x2=>if x2 then some 6 else some 0) l [] [] rfl (fun e=>by simp [Ea,Qy,Oc])
 rw [show ([] : List Dk).length = 0 from rfl] at e
 rw [e]
 rfl
end Go.Proofs.YtfcmmengcdebnaaGreatDoor
/- A meet at a moment: the deeds that count,and who is entered. No program stands here but its twins. -/
namespace Go.Proofs.YtfcmmengcdebnaaGreatDoor
open Go
def FH (at_ : Int) : List Dk → List (Eo × Bool) → List Dk
 | [],_=>[]
 | d :: ds,m=>if decide (at_ < d.At) || Ea m (Fd d) false then FH at_ ds m else
  d :: FH at_ ds (if decide (d.Kind = 4) then Gl m (Eo.mk d.Of d.Other) true else m)
def Mm (l : List Dk) (at_ : Int) : List Dk:=(FH at_ l.reverse []).reverse
def DK (l : List Dk) (at_ : Int) : List Nat → List (Eo × Bool) → List Nat
 | [],_=>[]
 | i :: is,m=>if decide (at_ < (nth l (i : Int)).At) || Ea m (Fd (nth l (i : Int))) false then DK l at_ is m else
  i :: DK l at_ is (if decide ((nth l (i : Int)).Kind = 4) then Gl m (Eo.mk (nth l (i : Int)).Of (nth l (i : Int)).Other) true else m)
theorem Zm (l : List Dk) (at_ : Int) : ∀ (is : List Nat) (m : List (Eo × Bool)),(DK l at_ is m).Sublist is
 | [],_=>List.Sublist.refl _
 | i :: is,m=>by
  rw [DK]
  split
  ·exact (Zm l at_ is m).cons i
  ·exact (Zm l at_ is _).cons_cons i
theorem GD (l : List Dk) (at_ : Int) : ∀ (is : List Nat) (m : List (Eo × Bool)),(DK l at_ is m).map (fun (i : Nat)=>nth l (i : Int)) = FH at_ (is.map fun (i : Nat)=>nth l (i : Int)) m
 | [],_=>rfl
 | i :: is,m=>by
  rw [DK,List.map_cons,FH]
  split
  ·exact GD l at_ is m
  ·rw [List.map_cons,GD l at_ is _]
theorem GE (at_ : Int) : ∀ (l : List Dk) (m : List (Eo × Bool)),(FH at_ l m).Sublist l
 | [],_=>List.Sublist.refl _
 | d :: l,m=>by
  rw [FH]
  split
  ·exact (GE at_ l m).cons d
  ·exact (GE at_ l _).cons_cons d
theorem EB (l : List Dk) (at_ : Int) : (Mm l at_).Sublist l:=by
 have:=(GE at_ l.reverse []).reverse
 rwa [List.reverse_reverse] at this
theorem EC (l : List Dk) (at_ : Int) : ∀ (is : List Nat) (m : List (Eo × Bool)) (x : List Int),x.length + is.length ≤ 1000000 →
  Ko l at_ is m x = Oq (x ++ (DK l at_ is m).map fun (i : Nat)=>(i : Int))
 | [],_,x,_=>by rw [Ko]; simp [DK]
 | i :: is,m,x,hl=>by
  simp only [List.length_cons] at hl
  rw [Ko,DK]
  unfold Wg
  by_cases h : (decide (at_ < (nth l (i : Int)).At) || Ea m (Fd (nth l (i : Int))) false) = true
  ·rw [if_pos h,if_pos h]
   exact EC l at_ is m x (by omega)
  ·rw [if_neg h,if_neg h,Fx (by unfold Rw; exact decide_eq_true (by omega)),EC l at_ is _ (x ++ [(i : Int)]) (by simp; omega)]
   simp
def PM (l : List Dk) (at_ : Int) : List Nat:=(DK l at_ (Xu l.length) []).reverse
theorem NT (l : List Dk) (at_ : Int) (hl : l.length ≤ 1000000) : Wp l at_ = some ((PM l at_).map fun (i : Nat)=>(i : Int)):=by
 have h2 : (Xu l.length).length = l.length:=by simp [Xu]
 have h3:=(Zm l at_ (Xu l.length) []).length_le
 unfold Wp
 rw [EC l at_ (Xu l.length) [] [] (by simp; omega),List.nil_append,PL _ (by rw [List.length_map]; omega),← List.map_reverse]
 rfl
theorem cntI_lt {l : List Dk} {at_ : Int} {i : Nat} (h : i ∈ PM l at_) : i < l.length:=by
 unfold PM at h
 rw [List.mem_reverse] at h
 have:=(Zm l at_ (Xu l.length) []).subset h
 unfold Xu at this
 simpa using this
theorem PN (l : List Dk) (at_ : Int) : (PM l at_).map (fun (i : Nat)=>nth l (i : Int)) = Mm l at_:=by
 unfold PM Mm
 rw [List.map_reverse,GD]
 congr 2
 unfold Xu
 rw [List.map_reverse,TJ]
theorem KV (p : Iw) (l : List Dk) : ∀ (is : List Nat) (k : Nat) (x : List Dk),(∀ i ∈ is,i < l.length) → x.length + is.length ≤ 1000000 →
  Mc l (fun x1=>some (some (Kg.mk p x1))) (is.map fun (i : Nat)=>(i : Int)) k x = some (some (Kg.mk p (x ++ is.map fun (i : Nat)=>nth l (i : Int))))
 | [],k,x,_,_=>by simp [Mc]
 | i :: is,k,x,hi,hl=>by
  simp only [List.length_cons] at hl
  have h1:=hi i List.mem_cons_self
  rw [List.map_cons,Mc,Fx (Jf.2 ⟨by omega,by omega⟩),Fx (by unfold Rw; exact decide_eq_true (by omega)),KV p l is (k + 1) (x ++ [nth l (i : Int)]) (fun j hj=>hi j (List.mem_cons_of_mem _ hj)) (by simp; omega)]
  simp
theorem PO (p : Iw) (l : List Dk) (at_ : Int) (hl : l.length ≤ 1000000) : Vn p l at_ = some (some (Kg.mk p (Mm l at_))):=by
 have h3:=(Zm l at_ (Xu l.length) []).length_le
 have h2 : (Xu l.length).length = l.length:=by simp [Xu]
 unfold Vn
 rw [NT l at_ hl]
 simp only [Option.bind_some,On]
 rw [KV p l (PM l at_) 0 [] (fun i hi=>cntI_lt hi) (by unfold PM; simp; omega),List.nil_append,PN]
def VA (race : ByteArray) (m : List (ByteArray × Dk)) (y : Dk) : List (ByteArray × Dk) :=
 if y.Race = race then if y.Kind = 1 then Gl m y.Who y else if y.Kind = 2 then AP m y.Who else m else m
def JT (race : ByteArray) (l : List Dk) : List (ByteArray × Dk):=l.foldl (VA race) []
def Xh (race : ByteArray) (l : List Dk) : List Dk:=Qp ltW ((JT race l).map (·.2))
theorem Yd (race : ByteArray) (j : List (ByteArray × Dk) → Option (List Dk)) : ∀ (ys : List Dk) (i : Nat) (m : List (ByteArray × Dk)),Lk race j ys i m = j (ys.foldl (VA race) m)
 | [],_,m=>by rw [Lk]; rfl
 | y :: ys,i,m=>by
  rw [Lk]
  simp only [On,List.foldl_cons]
  unfold VA
  by_cases hr : y.Race = race
  ·rw [if_neg (by simp [hr]),if_pos hr]
   by_cases h1 : y.Kind = 1
   ·rw [if_pos (decide_eq_true h1),if_pos h1]
    exact Yd race j ys (i + 1) _
   ·rw [if_neg (by simpa using h1),if_neg h1]
    by_cases h2 : y.Kind = 2
    ·rw [if_pos (decide_eq_true h2),if_pos h2]
     exact Yd race j ys (i + 1) _
    ·rw [if_neg (by simpa using h2),if_neg h2]
     exact Yd race j ys (i + 1) _
  ·rw [if_pos (by simpa using hr),if_neg hr]
   exact Yd race j ys (i + 1) _
theorem IW (j : List Dk → Option (List Dk)) : ∀ (p : List (ByteArray × Dk)) (x : List Dk),x.length + p.length ≤ 1000000 → Mj j p x = j (x ++ p.map (·.2))
 | [],x,_=>by simp [Mj]
 | y :: p,x,h=>by
  simp only [List.length_cons] at h
  rw [Mj,Fx (by unfold Rw; exact decide_eq_true (by omega))]
  simp only [Option.bind_some]
  rw [IW j p (x ++ [y.2]) (by simp; omega)]
  simp
theorem MH {κ ν : Type} [DecidableEq κ] (k : κ) (v : ν) : ∀ m : List (κ × ν),(m.map (·.1)).Nodup → ((Gl m k v).map (·.1)).Nodup ∧ ∀ x,x ∈ (Gl m k v).map (·.1) ↔ x = k ∨ x ∈ m.map (·.1)
 | [],_=>⟨by simp [Gl],fun x=>by simp [Gl]⟩
 | (q,u) :: m,h=>by
  simp only [List.map_cons,List.nodup_cons] at h
  obtain ⟨i1,i2⟩:=MH k v m h.2
  by_cases e : k = q
  ·subst e
   simp only [Gl,if_true,List.map_cons,List.nodup_cons]
   exact ⟨h,fun x=>by simp⟩
  ·simp only [Gl,e,if_false,List.map_cons,List.nodup_cons]
   refine ⟨⟨fun hm=>((i2 q).1 hm).elim (fun h1=>e h1.symm) h.1,i1⟩,fun x=>?_⟩
   rw [List.mem_cons,i2 x,List.mem_cons]
   constructor
   ·rintro (h1 | h1 | h1)
    ·exact .inr (.inl h1)
    ·exact .inl h1
    ·exact .inr (.inr h1)
   ·rintro (h1 | h1 | h1)
    ·exact .inr (.inl h1)
    ·exact .inl h1
    ·exact .inr (.inr h1)
theorem IX {κ ν : Type} [DecidableEq κ] (k : κ) : ∀ m : List (κ × ν),(AP m k).Sublist m
 | []=>List.Sublist.refl _
 | (q,u) :: m=>by
  by_cases e : k = q
  ·simp only [AP,e,if_true]; exact List.sublist_cons_self _ _
  ·simp only [AP,e,if_false]; exact (IX k m).cons_cons _
theorem NU {κ ν : Type} [DecidableEq κ] (k : κ) (v : ν) : ∀ (m : List (κ × ν)) (p : κ × ν),p ∈ Gl m k v → p = (k,v) ∨ p ∈ m
 | [],p,h=>by simp [Gl] at h; exact .inl h
 | (q,u) :: m,p,h=>by
  by_cases e : k = q
  ·simp only [Gl,e,if_true,List.mem_cons] at h
   rcases h with h | h
   ·exact .inl (by rw [h,e])
   ·exact .inr (List.mem_cons_of_mem _ h)
  ·simp only [Gl,e,if_false,List.mem_cons] at h
   rcases h with h | h
   ·exact .inr (by rw [h]; exact List.mem_cons_self)
   ·exact (NU k v m p h).imp id (List.mem_cons_of_mem _)
structure RJ (race : ByteArray) (l : List Dk) (m : List (ByteArray × Dk)) : Prop where
 nd : (m.map (·.1)).Nodup
 is : ∀ p ∈ m,p.1 = p.2.Who ∧ p.2.Race = race ∧ p.2.Kind = 1 ∧ p.2 ∈ l
theorem RK (race : ByteArray) (l : List Dk) : ∀ (ys : List Dk) (m : List (ByteArray × Dk)),(∀ y ∈ ys,y ∈ l) → RJ race l m → RJ race l (ys.foldl (VA race) m)
 | [],m,_,h=>h
 | y :: ys,m,hy,h=>by
  rw [List.foldl_cons]
  refine RK race l ys _ (fun z hz=>hy z (List.mem_cons_of_mem _ hz)) ?_
  unfold VA
  split
  ·rename_i hr
   split
   ·rename_i h1
    obtain ⟨a,_⟩:=MH y.Who y m h.nd
    refine ⟨a,fun p hp=>?_⟩
    rcases NU _ _ m p hp with rfl | hp
    ·exact ⟨rfl,hr,h1,hy y List.mem_cons_self⟩
    ·exact h.is p hp
   ·split
    ·exact ⟨h.nd.sublist ((IX y.Who m).map _),fun p hp=>h.is p ((IX y.Who m).subset hp)⟩
    ·exact h
  ·exact h
theorem RL (race : ByteArray) (l : List Dk) : RJ race l (JT race l):=RK race l l [] (fun _ h=>h) ⟨by simp,fun _ h=>by cases h⟩
theorem NV {race : ByteArray} {l : List Dk} {m : List (ByteArray × Dk)} (h : RJ race l m) : (m.map (·.2)).map (·.Who) = m.map (·.1):=by
 rw [List.map_map]
 exact List.map_congr_left fun p hp=>(h.is p hp).1.symm
theorem PP (p : Iw) (l : List Dk) (race : ByteArray) (hl : (JT race l).length ≤ 12) : Ox p l race = some (Xh race l):=by
 have ho:=RL race l
 unfold Ox
 simp only [On]
 rw [Yd]
 refine allP_is fun q hq=>?_
 have hql : q.length = (JT race l).length:=hq.length_eq
 rw [IW _ q [] (by simp; omega),List.nil_append,UZ _ (by rw [List.length_map]; omega)]
 simp only [Option.bind_some]
 have hnd : (((JT race l).map (·.2)).map (·.Who)).Nodup:=by rw [NV ho]; exact ho.nd
 have hp : (q.map (·.2)).Perm ((JT race l).map (·.2)):=hq.map _
 congr 1
 exact NQ ltW_irr GC _ _ (MG ((hp.map (·.Who)).nodup_iff.2 hnd)) (CN GC _ (MG hnd)) fun x=>by rw [hp.mem_iff]; exact (Xt _ _ _).symm
theorem VB {race : ByteArray} {l : List Dk} {d : Dk} : d ∈ Xh race l ↔ d ∈ (JT race l).map (·.2):=Xt _ _ _
theorem Zn (race : ByteArray) (l : List Dk) : (Xh race l).length = (JT race l).length:=by unfold Xh; rw [Yc,List.length_map]
theorem entL_up (race : ByteArray) (l : List Dk) : (Xh race l).Pairwise fun a b=>ltW a b = true:=by
 have ho:=RL race l
 exact CN GC _ (MG (by rw [NV ho]; exact ho.nd))
theorem HW {race : ByteArray} {l : List Dk} {d : Dk} (h : d ∈ Xh race l) : d.Race = race ∧ d.Kind = 1 ∧ d ∈ l:=by
 obtain ⟨p,hp,rfl⟩:=List.mem_map.1 (VB.1 h)
 exact ((RL race l).is p hp).2
end Go.Proofs.YtfcmmengcdebnaaGreatDoor
/- Fractions in lowest terms whose denominators divide 60: each is a whole number of sixtieths,and they add so. No program stands here but its twins. -/
namespace Go.Proofs.YtfcmmengcdebnaaGreatDoor
open Go
theorem NW (j : Int → Option Em) : ∀ (m x y : Nat),x < m → Lv j m (x : Int) (y : Int) = j ((Nat.gcd x y : Nat) : Int)
 | 0,_,_,h=>by omega
 | m + 1,x,y,h=>by
  rw [Lv,Nat.gcd_rec]
  by_cases h0 : x = 0
  ·subst h0
   rw [if_neg (by simp),Nat.mod_zero,Nat.gcd_zero_right]
  ·have hlt:=Nat.mod_lt y (Nat.pos_of_ne_zero h0)
   rw [if_pos (by simp; omega),Fx (by simp [h0]),← Int.ofNat_tmod]
   exact NW j m (y % x) x (by omega)
theorem VC {a g : Nat} (h : a ≤ 4000000000000000000) : W (Int.tdiv (a : Int) (g : Int)) = ((a / g : Nat) : Int):=by
 rw [← Int.ofNat_tdiv]
 have:=Nat.div_le_self a g
 generalize a / g = q at this ⊢
 exact Nu (by omega) (by omega)
theorem frac_is (a b : Nat) (hb : 0 < b) (ha : a ≤ 4000000000000000000) (hb' : b ≤ 4000000000000000000) : Qm (a : Int) (b : Int) = some ⟨((a / Nat.gcd a b : Nat) : Int),((b / Nat.gcd a b : Nat) : Int)⟩:=by
 unfold Qm
 simp only [Jc]
 rw [NW _ _ a b (by simp)]
 have hg : 0 < Nat.gcd a b:=Nat.gcd_pos_of_pos_right _ hb
 have h0 : ¬ ((Nat.gcd a b : Nat) : Int) = 0:=by omega
 rw [Fx (by rw [decide_eq_false h0]; rfl),Fx (by rw [decide_eq_false h0]; rfl),VC ha,VC hb']
def fr (v : Nat) : Em:=⟨((v / Nat.gcd v 60 : Nat) : Int),((60 / Nat.gcd v 60 : Nat) : Int)⟩
theorem gcd60 (v : Nat) : 0 < Nat.gcd v 60:=Nat.gcd_pos_of_pos_right _ (by decide)
theorem NX {a b v : Nat} (hb : 0 < b) (h : a * 60 = v * b) : a / Nat.gcd a b = v / Nat.gcd v 60 ∧ b / Nat.gcd a b = 60 / Nat.gcd v 60:=by
 have hg:=Nat.gcd_pos_of_pos_right a hb
 have hk:=gcd60 v
 have c1 : (a / Nat.gcd a b).Coprime (b / Nat.gcd a b):=Nat.coprime_div_gcd_div_gcd hg
 have c2 : (v / Nat.gcd v 60).Coprime (60 / Nat.gcd v 60):=Nat.coprime_div_gcd_div_gcd hk
 have e1:=Nat.div_mul_cancel (Nat.gcd_dvd_left a b)
 have e2:=Nat.div_mul_cancel (Nat.gcd_dvd_right a b)
 have e3:=Nat.div_mul_cancel (Nat.gcd_dvd_left v 60)
 have e4:=Nat.div_mul_cancel (Nat.gcd_dvd_right v 60)
 generalize a / Nat.gcd a b = a' at *
 generalize b / Nat.gcd a b = b' at *
 generalize v / Nat.gcd v 60 = v' at *
 generalize hd : 60 / Nat.gcd v 60 = d' at *
 generalize Nat.gcd a b = g at *
 generalize Nat.gcd v 60 = k at *
 have hx : a' * d' = v' * b':=by
  have h1 : a' * g * (d' * k) = v' * k * (b' * g):=by rw [e1,e4,e3,e2]; exact h
  have h2 : a' * d' * (g * k) = v' * b' * (g * k):=by
   calc a' * d' * (g * k) = a' * g * (d' * k):=by ac_rfl
    _ = v' * k * (b' * g):=h1
    _ = v' * b' * (g * k):=by ac_rfl
  exact Nat.eq_of_mul_eq_mul_right (Nat.mul_pos hg hk) h2
 have hb' : 0 < b':=by
  rcases Nat.eq_zero_or_pos b' with h0 | h0
  ·rw [h0] at e2; omega
  ·exact h0
 have p1 : b' ∣ d':=c1.symm.dvd_of_dvd_mul_left (by rw [hx]; exact Nat.dvd_mul_left _ _)
 have p2 : d' ∣ b':=c2.symm.dvd_of_dvd_mul_left (by rw [← hx]; exact Nat.dvd_mul_left _ _)
 have e : b' = d':=Nat.dvd_antisymm p1 p2
 subst e
 exact ⟨Nat.eq_of_mul_eq_mul_right hb' hx,rfl⟩
theorem frac_fr {a b v : Nat} (hb : 0 < b) (h : a * 60 = v * b) (ha : a ≤ 4000000000000000000) (hb' : b ≤ 4000000000000000000) : Qm (a : Int) (b : Int) = some (fr v):=by
 rw [frac_is a b hb ha hb']
 obtain ⟨h1,h2⟩:=NX hb h
 rw [h1,h2]; rfl
theorem none_fr : Kt = fr 0:=by decide +kernel
end Go.Proofs.YtfcmmengcdebnaaGreatDoor
/- Points of races: the rows of one race each,and what each row gets: a whole number of sixtieths. Conditions: not more than five rows of one race,a small table. No program stands here but its twins. -/
namespace Go.Proofs.YtfcmmengcdebnaaGreatDoor
open Go
def One (g : List Dm) : Prop:=g ≠ [] ∧ ∀ x ∈ g,∀ y ∈ g,x.Race = y.Race
theorem NY (pl pre g post : List Dm) (hp : pl = pre ++ (g ++ post)) (hg : One g) (hn : ∀ x ∈ g,∀ y,post.head? = some y → x.Race ≠ y.Race) (hl : pl.length ≤ 1000) (j : Int → Option (List (List Dm))) :
  ∀ (d m k : Nat),g.length = k + d → 1 ≤ k → d < m → Na pl (pre.length : Int) j m ((pre.length + k : Nat) : Int) = j ((pre.length + g.length : Nat) : Int)
 | d,0,_,_,_,h=>by omega
 | d,m + 1,k,h1,h2,h3=>by
  have hlen : pl.length = pre.length + (g.length + post.length):=by rw [hp]; simp
  rw [Na]
  simp only [Jc]
  have hn0 : ∃ g0 gs,g = g0 :: gs:=by
   cases g with
   | nil=>exact (hg.1 rfl).elim
   | cons a b=>exact ⟨a,b,rfl⟩
  obtain ⟨g0,gs,e0⟩:=hn0
  have h0 : nth pl (pre.length : Int) = g0:=by rw [hp,e0]; exact Wu pre g0 (gs ++ post) rfl
  have hb0 : inB (pre.length : Int) pl.length = true:=Jf.2 (by rw [hlen,e0]; simp; omega)
  cases d with
  | zero =>
   have hk : k = g.length:=by omega
   subst hk
   cases post with
   | nil =>
    simp only [List.length_nil,Nat.add_zero] at hlen
    rw [if_neg (by rw [hlen]; simp)]
    simp only [hlen,Int.lt_irrefl,decide_false,Bool.false_and,Bool.false_eq_true,if_false]
   | cons y post =>
    have hy : nth pl ((pre.length + g.length : Nat) : Int) = y:=by
     have : pl = (pre ++ g) ++ y :: post:=by rw [hp]; simp
     rw [this]; exact Wu (pre ++ g) y post (by simp)
    have hb : inB ((pre.length + g.length : Nat) : Int) pl.length = true:=Jf.2 (by rw [hlen]; simp; omega)
    rw [if_pos (by rw [hlen]; simp; omega),Fx hb,Fx hb0,hy,h0]
    have hne : decide (y.Race = g0.Race) = false:=decide_eq_false fun e=>hn g0 (by rw [e0]; simp) y rfl e.symm
    rw [hne,Bool.and_false,if_neg (by simp)]
  | succ d =>
   have hkg : k < g.length:=by omega
   have hk : nth pl ((pre.length + k : Nat) : Int) = g[k]:=by
    unfold nth
    rw [Int.toNat_natCast,List.getD,hp,List.getElem?_append_right (by omega),Nat.add_sub_cancel_left,List.getElem?_append_left hkg,List.getElem?_eq_getElem hkg]; rfl
   have hb : inB ((pre.length + k : Nat) : Int) pl.length = true:=Jf.2 (by rw [hlen]; omega)
   have hlt : ((pre.length + k : Nat) : Int) < (pl.length : Int):=by rw [hlen]; omega
   rw [if_pos (decide_eq_true hlt),Fx hb,Fx hb0,hk,h0]
   have heq : g[k].Race = g0.Race:=hg.2 _ (List.getElem_mem hkg) _ (by rw [e0]; simp)
   rw [if_pos (by simp only [heq,decide_true,Bool.and_true]; exact decide_eq_true hlt),Nu (by omega) (by omega)]
   have:=NY pl pre g post hp hg hn hl j d m (k + 1) (by omega) (by omega) (by omega)
   rw [show ((pre.length + k : Nat) : Int) + 1 = ((pre.length + (k + 1) : Nat) : Int) by omega]
   exact this
theorem NZ (pl : List Dm) (hl : pl.length ≤ 1000) (j : List (List Dm) → Option (List (List Dm))) : ∀ (Gs : List (List Dm)) (pre : List Dm) (x1 : List (List Dm)) (m : Nat),pl = pre ++ Gs.flatten → Gs.length < m → x1.length + Gs.length ≤ 10000 →
  (∀ g ∈ Gs,One g) → Gs.Pairwise (fun g g'=>∀ x ∈ g,∀ y ∈ g',x.Race ≠ y.Race) → Lf pl j m x1 (pre.length : Int) = j (x1 ++ Gs)
 | Gs,pre,x1,0,_,h,_,_,_=>by omega
 | [],pre,x1,m + 1,h1,_,_,_,_=>by
  have : pl.length = pre.length:=by rw [h1]; simp
  rw [Lf,if_neg (by rw [this]; simp),List.append_nil]
 | g :: Gs,pre,x1,m + 1,h1,h2,h3,h4,h5=>by
  have hg:=h4 g List.mem_cons_self
  have hpos : 0 < g.length:=List.length_pos_iff.2 hg.1
  have hp : pl = pre ++ (g ++ Gs.flatten):=by rw [h1]; simp
  have hlen : pl.length = pre.length + (g.length + Gs.flatten.length):=by rw [hp]; simp
  obtain ⟨p1,p2⟩:=List.pairwise_cons.1 h5
  rw [Lf,if_pos (by rw [hlen]; simp; omega)]
  simp only [Jc]
  have hhead : ∀ x ∈ g,∀ y,Gs.flatten.head? = some y → x.Race ≠ y.Race:=by
   intro x hx y hy
   cases Gs with
   | nil=>simp at hy
   | cons g' Gs =>
    have hg':=h4 g' (by simp)
    cases g' with
    | nil=>exact (hg'.1 rfl).elim
    | cons a b=>simp at hy; subst hy; exact p1 (a :: b) List.mem_cons_self x hx a List.mem_cons_self
  have hk:=NY pl pre g Gs.flatten hp hg hhead hl (fun x3=>Chk (CR (pre.length : Int) x3 pl.length) (Chk (Rw x1.length) (Lf pl j m (x1 ++ [cut pl (pre.length : Int) x3]) x3))) (g.length - 1) (((pl.length : Int) - (W ((pre.length : Int) + 1))).toNat + 2) 1 (by omega) (by omega) (by rw [Nu (by omega) (by omega)]; omega)
  rw [Nu (by omega) (by omega)] at hk ⊢
  rw [show (pre.length : Int) + 1 = ((pre.length + 1 : Nat) : Int) by omega] at hk ⊢
  rw [hk,Fx (Uz.2 (by omega)),Fx (by unfold Rw; simp; simp at h3; omega)]
  have hcut : cut pl (pre.length : Int) ((pre.length + g.length : Nat) : Int) = g:=by
   unfold cut
   rw [hp,Int.toNat_natCast,Int.toNat_natCast,← List.append_assoc,List.take_left' (by simp),List.drop_left]
  rw [hcut]
  have ih:=NZ pl hl j Gs (pre ++ g) (x1 ++ [g]) m (by rw [hp]; simp) (by simp at h2; omega) (by simp at h3 ⊢; omega) (fun g' h'=>h4 g' (List.mem_cons_of_mem _ h')) p2
  rw [List.length_append] at ih
  rw [ih]; simp
theorem RM : ∀ (Gs : List (List Dm)),(∀ g ∈ Gs,One g) → Gs.length ≤ Gs.flatten.length
 | [],_=>by simp
 | g :: Gs,h=>by
  have:=RM Gs fun g' h'=>h g' (List.mem_cons_of_mem _ h')
  have:=List.length_pos_iff.2 (h g List.mem_cons_self).1
  rw [List.flatten_cons,List.length_append,List.length_cons]; omega
theorem IY (Gs : List (List Dm)) (h1 : ∀ g ∈ Gs,One g) (h2 : Gs.Pairwise (fun g g'=>∀ x ∈ g,∀ y ∈ g',x.Race ≠ y.Race)) (hl : Gs.flatten.length ≤ 1000) : Sh Gs.flatten = some Gs:=by
 unfold Sh
 simp only [Jc]
 have hf:=RM Gs h1
 have:=NZ Gs.flatten hl (fun x1=>some x1) Gs [] [] (((Gs.flatten.length : Int) - 0).toNat + 2) rfl (by omega) (by simp; omega) h1 h2
 simpa using this
structure TOk (t : Kr) : Prop where
 len : t.Points.length ≤ 5
 rng : ∀ n ∈ t.Points,0 ≤ n ∧ n ≤ 10
 rel : 1 ≤ t.Relay ∧ t.Relay ≤ 2
 most : 0 ≤ t.Most ∧ t.Most ≤ 2
def Xe (L : List Dm) (r : Ds) : Prop:=r.x_ ∈ L ∧ r.x_.Club ≠ An ∧ ∃ v,v ≤ 6000 ∧ r.points_ = fr v
theorem MI (t : Kr) (L : List Dm) (j : List (ByteArray × Int) → List Int → List Ds → Option (List Ds)) : ∀ (ys : List Dm) (i : Nat) (x1 : List (ByteArray × Int)) (x2 : List Int) (x3 : List Ds),(∀ y ∈ ys,y ∈ L) →
  (∀ s ∈ x2,0 ≤ s ∧ s < x3.length) → x2.length ≤ x3.length → x3.length + ys.length ≤ 5 → (∀ r ∈ x3,Xe L r) →
  ∃ mp sw out,Ku t j ys i x1 x2 x3 = j mp sw out ∧ (∀ s ∈ sw,0 ≤ s ∧ s < out.length) ∧ sw.length ≤ out.length ∧ out.length ≤ x3.length + ys.length ∧ (∀ r ∈ out,Xe L r)
 | [],i,x1,x2,x3,_,h1,h2,_,h4=>⟨x1,x2,x3,rfl,h1,h2,by simp,h4⟩
 | y :: ys,i,x1,x2,x3,h0,h1,h2,h3,h4=>by
  simp only [List.length_cons] at h3 ⊢
  rw [Ku]
  simp only [Jc]
  have hys : ∀ z ∈ ys,z ∈ L:=fun z hz=>h0 z (List.mem_cons_of_mem _ hz)
  by_cases hc : (decide (y.Rank = 0) || decide (y.Club = An)) = true
  ·rw [if_pos hc]
   obtain ⟨mp,sw,out,e,g1,g2,g3,g4⟩:=MI t L j ys (i + 1) x1 x2 x3 hys h1 h2 (by omega) h4
   exact ⟨mp,sw,out,e,g1,g2,by omega,g4⟩
  ·rw [if_neg hc]
   simp only [Bool.or_eq_true,decide_eq_true_eq,not_or] at hc
   have hok : ∀ r ∈ x3 ++ [(Ds.mk y Kt)],Xe L r:=fun r hr=>by
    rcases List.mem_append.1 hr with hr | hr
    ·exact h4 r hr
    ·obtain rfl:=List.mem_singleton.1 hr
     exact ⟨h0 y List.mem_cons_self,hc.2,0,by omega,none_fr⟩
   have go : ∀ x7 : List Int,(∀ s ∈ x7,0 ≤ s ∧ s < (x3 ++ [(Ds.mk y Kt)]).length) → x7.length ≤ x3.length + 1 → ∃ mp sw out,Ku t j ys (i + 1) (Gl x1 y.Club (W ((Ea x1 y.Club 0) + 1))) x7 (x3 ++ [(Ds.mk y Kt)]) = j mp sw out ∧ (∀ s ∈ sw,0 ≤ s ∧ s < out.length) ∧ sw.length ≤ out.length ∧ out.length ≤ x3.length + (ys.length + 1) ∧ (∀ r ∈ out,Xe L r):=by
    intro x7 k1 k2
    obtain ⟨mp,sw,out,e,g1,g2,g3,g4⟩:=MI t L j ys (i + 1) (Gl x1 y.Club (W ((Ea x1 y.Club 0) + 1))) x7 (x3 ++ [(Ds.mk y Kt)]) hys k1 (by simp; omega) (by simp; omega) hok
    exact ⟨mp,sw,out,e,g1,g2,by simp at g3; omega,g4⟩
   split
   ·rw [Fx (by unfold Rw; simp; omega),Fx (by unfold Rw; simp; omega)]
    refine go _ (fun s hs=>?_) (by simp; omega)
    rcases List.mem_append.1 hs with hs | hs
    ·have:=h1 s hs; simp; omega
    ·obtain rfl:=List.mem_singleton.1 hs; simp; omega
   ·rw [Fx (by unfold Rw; simp; omega)]
    refine go _ (fun s hs=>?_) (by omega)
    have:=h1 s hs; simp; omega
theorem RN (t : Kr) (ht : TOk t) (x2 : List Int) (x8 : List Ds) (hs : ∀ s ∈ x2,0 ≤ s ∧ s < x8.length) (h5 : x2.length ≤ 5) (i : Nat) (hi : i < x2.length) (j : Int → Int → Option (List Ds)) : ∀ (d m k : Nat) (s : Int),x2.length = k + d → d < m → i ≤ k → 0 ≤ s → s ≤ 10 * k →
  ∃ (k' : Nat) (s' : Int),Jt t x2 x8 (i : Int) j m (k : Int) s = j (k' : Int) s' ∧ k ≤ k' ∧ k' ≤ x2.length ∧ 0 ≤ s' ∧ s' ≤ 10 * k' ∧ (k = i → i < k')
 | d,0,_,_,_,h,_,_,_=>by omega
 | d,m + 1,k,s,h1,h2,h3,h4,h6=>by
  rw [Jt]
  simp only [Jc]
  have hx : ∀ q : Nat,q < x2.length → inB (q : Int) x2.length = true ∧ inB (nth x2 (q : Int)) x8.length = true:=fun q hq=>by
   have hb : inB (q : Int) x2.length = true:=Jf.2 (by omega)
   have:=hs _ (List.mem_of_getElem? (Dx hb).1)
   exact ⟨hb,Jf.2 this⟩
  cases d with
  | zero =>
   have hk : k = x2.length:=by omega
   subst hk
   rw [if_neg (by simp)]
   simp only [Int.lt_irrefl,decide_false,Bool.false_and,Bool.false_eq_true,if_false]
   exact ⟨x2.length,s,rfl,by omega,by omega,h4,h6,by omega⟩
  | succ d =>
   have hkl : k < x2.length:=by omega
   have hlt : decide ((k : Int) < (x2.length : Int)) = true:=decide_eq_true (by omega)
   rw [if_pos hlt,Fx (hx k hkl).1,Fx (hx k hkl).2,Fx (hx i hi).1,Fx (hx i hi).2,hlt,Bool.true_and]
   split
   ·have hw : W ((k : Int) + 1) = ((k + 1 : Nat) : Int):=by rw [Nu (by omega) (by omega)]; rfl
    have next : ∀ s2 : Int,0 ≤ s2 → s2 ≤ s + 10 → ∃ (k' : Nat) (s' : Int),Jt t x2 x8 (i : Int) j m (W ((k : Int) + 1)) s2 = j (k' : Int) s' ∧ k ≤ k' ∧ k' ≤ x2.length ∧ 0 ≤ s' ∧ s' ≤ 10 * k' ∧ (k = i → i < k'):=by
     intro s2 g1 g2
     rw [hw]
     obtain ⟨k',s',e,q1,q2,q3,q4,_⟩:=RN t ht x2 x8 hs h5 i hi j d m (k + 1) s2 (by omega) (by omega) (by omega) g1 (by push_cast; omega)
     exact ⟨k',s',e,by omega,q2,q3,q4,by omega⟩
    by_cases hp : (k : Int) < (t.Points.length : Int)
    ·have hb : inB (k : Int) t.Points.length = true:=Jf.2 (by omega)
     have hr:=ht.rng _ (List.mem_of_getElem? (Dx hb).1)
     have hw2 : W (s + nth t.Points (k : Int)) = s + nth t.Points (k : Int):=Nu (by omega) (by omega)
     rw [if_pos (decide_eq_true hp),Fx hb,hw2]
     exact next _ (by omega) (by omega)
    ·rw [if_neg (by simpa using hp)]
     exact next s h4 (by omega)
   ·rename_i hne
    exact ⟨k,s,rfl,by omega,by omega,h4,h6,fun e=>by subst e; simp at hne⟩
theorem frac60 {a : Int} {b : Nat} (ha : 0 ≤ a) (ha' : a ≤ 100) (hb : 1 ≤ b) (hb' : b ≤ 5) : ∃ v,v ≤ 6000 ∧ Qm a (b : Int) = some (fr v):=by
 obtain ⟨n,rfl⟩:=Int.eq_ofNat_of_zero_le ha
 have h60 : 60 / b * b = 60:=by
  have : b = 1 ∨ b = 2 ∨ b = 3 ∨ b = 4 ∨ b = 5:=by omega
  rcases this with rfl | rfl | rfl | rfl | rfl <;> rfl
 have hle : 60 / b ≤ 60:=Nat.div_le_self _ _
 refine ⟨n * (60 / b),?_,frac_fr (by omega) (by rw [Nat.mul_assoc,h60]) (by omega) (by omega)⟩
 calc n * (60 / b) ≤ 100 * 60:=Nat.mul_le_mul (by omega) hle
  _ = 6000:=rfl
theorem RO (L : List Dm) (x2 : List Int) (i k : Nat) (a : Int) (ha : 0 ≤ a) (ha' : a ≤ 100) (hik : i < k) (hk : k ≤ x2.length) (h5 : x2.length ≤ 5) (j : List Ds → Option (List Ds)) : ∀ (d m q : Nat) (x15 : List Ds),k - i = q + d → d < m → (∀ s ∈ x2,0 ≤ s ∧ s < x15.length) → (∀ r ∈ x15,Xe L r) →
  ∃ out,Ju (k : Int) (i : Int) a x2 j m x15 (q : Int) = j out ∧ out.length = x15.length ∧ (∀ r ∈ out,Xe L r)
 | d,0,_,_,_,h,_,_=>by omega
 | d,m + 1,q,x15,h1,h2,h3,h4=>by
  rw [Ju]
  simp only [Int.toNat_natCast]
  cases d with
  | zero =>
   rw [if_neg (by simp; omega)]
   exact ⟨x15,rfl,rfl,h4⟩
  | succ d =>
   rw [if_pos (by simp; omega),Fx (Jf.2 (by omega))]
   have hw : W ((k : Int) - (i : Int)) = ((k - i : Nat) : Int):=by rw [Nu (by omega) (by omega)]; omega
   obtain ⟨v,hv,e⟩:=frac60 ha ha' (b:=k - i) (by omega) (by omega)
   rw [hw,e,Option.bind_some]
   have hcut : (cut x2 (i : Int) (k : Int))[q]? = x2[i + q]?:=by
    unfold cut
    rw [Int.toNat_natCast,Int.toNat_natCast,List.getElem?_drop,List.getElem?_take,if_pos (by omega)]
   have hm : nth (cut x2 (i : Int) (k : Int)) (q : Int) ∈ x2:=by
    unfold nth
    rw [Int.toNat_natCast,List.getD,hcut,List.getElem?_eq_getElem (by omega)]
    exact List.getElem_mem _
   have hs:=h3 _ hm
   generalize nth (cut x2 (i : Int) (k : Int)) (q : Int) = z at hs hm
   have hb : inB z x15.length = true:=Jf.2 hs
   rw [Fx hb,show W ((q : Int) + 1) = ((q + 1 : Nat) : Int) by rw [Nu (by omega) (by omega)]; rfl]
   have hz:=h4 _ (List.mem_of_getElem? (Dx hb).1)
   obtain ⟨out,e2,g1,g2⟩:=RO L x2 i k a ha ha' hik hk h5 j d m (q + 1) (x15.set z.toNat (Ds.mk ((nth x15 z).x_) (fr v))) (by omega) (by omega) (fun s hs=>by rw [List.length_set]; exact h3 s hs) (fun r hr=>by
    rcases List.mem_or_eq_of_mem_set hr with hr | rfl
    ·exact h4 r hr
    ·exact ⟨hz.1,hz.2.1,v,hv,rfl⟩)
   exact ⟨out,e2,by rw [g1,List.length_set],g2⟩
theorem RT (t : Kr) (ht : TOk t) (L g : List Dm) (hg : g ≠ []) (x2 : List Int) (h5 : x2.length ≤ 5) (j : List Ds → Option (List Ds)) : ∀ (m i : Nat) (x8 : List Ds),x2.length - i < m → i ≤ x2.length → (∀ s ∈ x2,0 ≤ s ∧ s < x8.length) → (∀ r ∈ x8,Xe L r) →
  ∃ out,Ix x2 g t j m x8 (i : Int) = j out ∧ out.length = x8.length ∧ (∀ r ∈ out,Xe L r)
 | 0,_,_,h,_,_,_=>by omega
 | m + 1,i,x8,h1,h2,h3,h4=>by
  rw [Ix]
  by_cases hi : i < x2.length
  ·rw [if_pos (by simp; omega)]
   simp only [Jc]
   have hg0 : inB 0 g.length = true:=Jf.2 ⟨by omega,by have:=List.length_pos_iff.2 hg; omega⟩
   obtain ⟨k',s',e,q1,q2,q3,q4,q5⟩:=RN t ht x2 x8 h3 h5 i hi (fun x10 x11=>Chk (inB 0 g.length) (if (nth g 0).Relay = true then Chk (CR (i : Int) x10 x2.length) (Ju x10 (i : Int) (W (x11 * t.Relay)) x2 (fun x15=>Ix x2 g t j m x15 x10) ((((x10.toNat - (i : Int).toNat : Nat) : Int) - 0).toNat + 2) x8 0) else Chk (CR (i : Int) x10 x2.length) (Ju x10 (i : Int) x11 x2 (fun x15=>Ix x2 g t j m x15 x10) ((((x10.toNat - (i : Int).toNat : Nat) : Int) - 0).toNat + 2) x8 0))) (x2.length - i) (((x2.length : Int) - (i : Int)).toNat + 2) i 0 (by omega) (by omega) (by omega) (by omega) (by omega)
   rw [e,Fx hg0]
   have hik:=q5 rfl
   have hs50 : s' ≤ 50:=by omega
   have fin : ∀ a : Int,0 ≤ a → a ≤ 100 → ∃ out,Chk (CR (i : Int) (k' : Int) x2.length) (Ju (k' : Int) (i : Int) a x2 (fun x15=>Ix x2 g t j m x15 (k' : Int)) (((((k' : Int).toNat - (i : Int).toNat : Nat) : Int) - 0).toNat + 2) x8 0) = j out ∧ out.length = x8.length ∧ (∀ r ∈ out,Xe L r):=by
    intro a ha ha'
    rw [Fx (Uz.2 (by omega))]
    obtain ⟨o1,e1,g1,g2⟩:=RO L x2 i k' a ha ha' hik q2 h5 (fun x15=>Ix x2 g t j m x15 (k' : Int)) (k' - i) (((((k' : Int).toNat - (i : Int).toNat : Nat) : Int) - 0).toNat + 2) 0 x8 (by omega) (by simp) h3 h4
    obtain ⟨o2,e2,g3,g4⟩:=RT t ht L g hg x2 h5 j m k' o1 (by omega) q2 (fun s hs=>by rw [g1]; exact h3 s hs) g2
    exact ⟨o2,e1.trans e2,by omega,g4⟩
   have hrel:=ht.rel
   split
   ·have hr2 : t.Relay = 1 ∨ t.Relay = 2:=by omega
    have hm : 0 ≤ s' * t.Relay ∧ s' * t.Relay ≤ 100:=by rcases hr2 with h | h <;> rw [h] <;> omega
    rw [Nu (by omega) (by omega)]
    exact fin _ hm.1 hm.2
   ·exact fin _ q3 (by omega)
  ·rw [if_neg (by simp; omega)]
   exact ⟨x8,rfl,rfl,h4⟩
theorem race_is (t : Kr) (ht : TOk t) (L g : List Dm) (hg : g ≠ []) (h5 : g.length ≤ 5) (hL : ∀ x ∈ g,x ∈ L) : ∃ R,Tm t g = some R ∧ R.length ≤ g.length ∧ ∀ r ∈ R,Xe L r:=by
 unfold Tm
 simp only [Jc]
 obtain ⟨mp,sw,out,e,g1,g2,g3,g4⟩:=MI t L (fun _ x2 x3=>Ix x2 g t (fun x8=>some x8) (((x2.length : Int) - 0).toNat + 2) x3 0) g 0 [] [] [] hL (fun _ h=>by cases h) (Nat.le_refl _) (by simpa using h5) (fun _ h=>by cases h)
 simp only [List.length_nil,Nat.zero_add] at g3
 rw [e]
 obtain ⟨o,e2,k1,k2⟩:=RT t ht L g hg sw (by omega) (fun x8=>some x8) (((sw.length : Int) - 0).toNat + 2) 0 out (by omega) (by omega) g1 g4
 exact ⟨o,by rw [← e2]; rfl,by omega,k2⟩
theorem VD (t : Kr) (ht : TOk t) (L : List Dm) (j : List Ds → Option (List Ds)) : ∀ (Gs : List (List Dm)) (i : Nat) (x1 : List Ds),(∀ g ∈ Gs,g ≠ [] ∧ g.length ≤ 5 ∧ ∀ x ∈ g,x ∈ L) → x1.length + Gs.flatten.length ≤ 10000 → (∀ r ∈ x1,Xe L r) →
  ∃ R,Me t j Gs i x1 = j R ∧ R.length ≤ x1.length + Gs.flatten.length ∧ ∀ r ∈ R,Xe L r
 | [],i,x1,_,_,h=>⟨x1,rfl,by simp,h⟩
 | g :: Gs,i,x1,h1,h2,h3=>by
  obtain ⟨k1,k2,k3⟩:=h1 g List.mem_cons_self
  obtain ⟨R,e,g1,g2⟩:=race_is t ht L g k1 k2 k3
  simp only [List.flatten_cons,List.length_append] at h2 ⊢
  rw [Me,e,Option.bind_some,Fx (by simp; omega)]
  obtain ⟨R2,e2,g3,g4⟩:=VD t ht L j Gs (i + 1) (x1 ++ R) (fun g' h'=>h1 g' (List.mem_cons_of_mem _ h')) (by rw [List.length_append]; omega) (fun r hr=>by
   rcases List.mem_append.1 hr with hr | hr
   ·exact h3 r hr
   ·exact g2 r hr)
  simp only [List.length_append] at g3
  exact ⟨R2,e2,by omega,g4⟩
theorem rows_is (t : Kr) (ht : TOk t) (Gs : List (List Dm)) (h1 : ∀ g ∈ Gs,One g ∧ g.length ≤ 5) (h2 : Gs.Pairwise (fun g g'=>∀ x ∈ g,∀ y ∈ g',x.Race ≠ y.Race)) (hl : Gs.flatten.length ≤ 15) : ∃ R,Pe t Gs.flatten = some R ∧ R.length ≤ 15 ∧ ∀ r ∈ R,Xe Gs.flatten r:=by
 unfold Pe
 rw [IY Gs (fun g hg=>(h1 g hg).1) h2 (by omega)]
 simp only [Option.bind_some,Jc]
 obtain ⟨R,e,g1,g2⟩:=VD t ht Gs.flatten (fun x1=>some x1) Gs 0 [] (fun g hg=>⟨(h1 g hg).1.1,(h1 g hg).2,fun x hx=>List.mem_flatten.2 ⟨g,hg,hx⟩⟩) (by rw [List.length_nil]; omega) (fun _ h=>by cases h)
 exact ⟨R,e,by rw [List.length_nil] at g1; omega,g2⟩
end Go.Proofs.YtfcmmengcdebnaaGreatDoor
/- What the reference says of steps,kinds and faults,where this law does not reach it itself. Plain definitions; no program stands here. -/
namespace Go.Proofs.YtfcmmengcdebnaaGreatDoor
open Go
def k_eve : ByteArray:=⟨#[101,118,101]⟩
def k_grey : ByteArray:=⟨#[103,114,101,121]⟩
end Go.Proofs.YtfcmmengcdebnaaGreatDoor
/- Tables and ranks: what the stream gives is right. Conditions: the twins of package points and of the stream. -/
namespace Go.Proofs.YtfcmmengcdebnaaGreatDoor
open Go
structure KW (t : Kr) : Prop extends TOk t where
 desc : t.Points.Pairwise fun a b=>b ≤ a
section
variable {L : List Int} (hL : FE L)
include hL
theorem RU (r4 : Int × Int) (j : List Int → Int → Option (Kr × Int)) : ∀ (d m : Nat) (x1 : List Int) (a n q : Int),r4.1 ≤ q + d → d < m → 0 ≤ q → q ≤ 5 → r4.1 ≤ 5 → x1.length = q.toNat → 0 ≤ a → a + d ≤ 1000000 → 0 ≤ n → n ≤ 10 → (∀ v ∈ x1,n ≤ v ∧ v ≤ 10) → x1.Pairwise (fun a b=>b ≤ a) →
  ∃ x b,Jy r4 L j m x1 a n q = j x b ∧ a ≤ b ∧ b ≤ a + d ∧ x.length ≤ 5 ∧ (∀ v ∈ x,0 ≤ v ∧ v ≤ 10) ∧ x.Pairwise (fun a b=>b ≤ a)
 | d,0,_,_,_,_,_,h,_,_,_,_,_,_,_,_,_,_=>absurd h (by omega)
 | d,m + 1,x1,a,n,q,h1,h2,h3,h4,h4',h5,h6,h7,h8,h9,h10,h11=>by
  rw [Jy]
  by_cases hc : q < r4.1
  ·rw [if_pos (decide_eq_true hc),Fx (by unfold Rw; simp; omega)]
   obtain ⟨d,rfl⟩ : ∃ e,d = e + 1:=⟨d - 1,by omega⟩
   obtain ⟨v,b,e,g1,g2,g3⟩:=Rv hL h6 (by omega) [0,1,2,3] (by simp) (by simp)
   rw [e]; simp only [Option.bind_some]
   have hv : 0 ≤ v ∧ v ≤ 3:=by simp at g3; omega
   have hn : 0 ≤ FL 0 (W (n - v)) ∧ FL 0 (W (n - v)) ≤ n:=by
    rw [Nu (by omega) (by omega)]; unfold FL; split <;> omega
   rw [show W (q + 1) = q + 1 from Nu (by omega) (by omega)]
   obtain ⟨x,c,r1,r2,r3,r5,r6,r7⟩:=RU r4 j d m (x1 ++ [n]) b (FL 0 (W (n - v))) (q + 1) (by omega) (by omega) (by omega) (by omega) h4' (by simp; omega) (by omega) (by omega) hn.1 (by omega) (fun v hv=>by
    rcases List.mem_append.1 hv with hv | hv
    ·have:=h10 v hv; omega
    ·obtain rfl:=List.mem_singleton.1 hv; omega) (by
    rw [List.pairwise_append]
    exact ⟨h11,by simp,fun u hu w hw=>by obtain rfl:=List.mem_singleton.1 hw; exact (h10 u hu).1⟩)
   exact ⟨x,c,r1,by omega,by omega,r5,r6,r7⟩
  ·rw [if_neg (by simpa using hc)]
   exact ⟨x1,a,rfl,by omega,by omega,by omega,fun v hv=>by have:=h10 v hv; omega,h11⟩
theorem VE {a : Int} (h0 : 0 ≤ a) (h1 : a ≤ 100000) : Dr a 10 KW (Rc L a):=by
 unfold Rc
 obtain ⟨v1,b1,e1,p1,q1,m1⟩:=Rv hL h0 (by omega) [1,2] (by simp) (by simp)
 rw [e1]; simp only [Option.bind_some]
 obtain ⟨v2,b2,e2,p2,q2,m2⟩:=Rv hL (a:=b1) (by omega) (by omega) [0,0,1,2] (by simp) (by simp)
 rw [e2]; simp only [Option.bind_some]
 obtain ⟨v3,b3,e3,p3,q3,m3⟩:=Rv hL (a:=b2) (by omega) (by omega) [10,9,7,5] (by simp) (by simp)
 rw [e3]; simp only [Option.bind_some]
 obtain ⟨v4,b4,e4,p4,q4,m4,m5⟩:=Zk hL (a:=b3) (by omega) (by omega) 0 5 (by omega) (by omega) (by omega)
 rw [e4]; simp only [Option.bind_some,Jc]
 simp only [List.mem_cons,List.not_mem_nil,or_false] at m1 m2 m3
 obtain ⟨x,b,e,g1,g2,g3,g4,g5⟩:=RU hL (v4,b4) (fun x1 x2=>some ((Kr.mk x1 v1 v2),x2)) v4.toNat ((v4 - 0).toNat + 2) [] b4 v3 0 (by simp only; omega) (by omega) (by omega) (by omega) (by simp only; omega) rfl (by omega) (by omega) (by omega) (by omega) (fun _ h=>by cases h) List.Pairwise.nil
 exact ⟨_,b,e,by omega,by omega,⟨⟨g3,g4,by simp only; omega,by simp only; omega⟩,g5⟩⟩
end
theorem IZ (t : Kr) (ht : KW t) (j : Option Int) : ∀ (ys dn : List Int),t.Points = dn ++ ys → Ka t j ys dn.length = j
 | [],dn,_=>rfl
 | y :: ys,dn,h=>by
  have ih:=IZ t ht j ys (dn ++ [y]) (by rw [h]; simp)
  rw [List.length_append,List.length_singleton] at ih
  have hy:=ht.rng y (by rw [h]; simp)
  have hw : Dv y 0 10000 = true:=by unfold Dv; simp; omega
  have hdl : dn.length ≤ 5:=by have:=ht.len; rw [h] at this; simp at this; omega
  rw [Ka,hw]
  simp only [Bool.not_true,Bool.false_eq_true,if_false,Jc]
  rcases List.eq_nil_or_concat dn with rfl | ⟨d,x,rfl⟩
  ·simpa using ih
  ·simp only [List.concat_eq_append] at *
   have hlen : ((d ++ [x]).length : Int) = (d.length : Int) + 1:=by simp
   have hn : nth t.Points (d.length : Int) = x:=by
    have : t.Points = d ++ x :: (y :: ys):=by rw [h]; simp
    rw [this]; exact Wu d x (y :: ys) rfl
   have hin : inB (d.length : Int) t.Points.length = true:=Jf.2 (by rw [h]; simp; omega)
   have hle : y ≤ x:=by
    have:=ht.desc
    rw [h,List.pairwise_append] at this
    exact this.2.2 x (by simp) y (by simp)
   have hpos : decide (0 < ((d ++ [x]).length : Int)) = true:=by rw [hlen]; exact decide_eq_true (by omega)
   rw [if_pos hpos,hpos,hlen,show (d.length : Int) + 1 - 1 = (d.length : Int) by omega,Nu (by omega) (by omega),Fx hin,hn,decide_eq_false (by omega)]
   simpa using ih
theorem OA {t : Kr} (ht : KW t) : Oj t = some 0:=by
 have hl:=ht.len
 have hr:=ht.rel
 have hm:=ht.most
 have h1 : Dv t.Relay 1 10 = true:=by unfold Dv; simp; omega
 have h2 : Dv t.Most 0 10 = true:=by unfold Dv; simp; omega
 unfold Oj
 rw [if_neg (by simp; omega)]
 simp only [Jc,h1,h2,Bool.not_true,Bool.or_self,Bool.false_eq_true,if_false]
 exact IZ t ht (some 0) t.Points [] rfl
def kR (x : Dm) : Int:=if x.Rank = 0 then 301 else x.Rank
def DC (x y : Dm) : Bool:=decide (cB x.Race y.Race < 0 ∨ (x.Race = y.Race ∧ (kR x < kR y ∨ (kR x = kR y ∧ cB x.Who y.Who < 0))))
theorem BZ {x y : Dm} : DC x y = true ↔ (cB x.Race y.Race < 0 ∨ (x.Race = y.Race ∧ (kR x < kR y ∨ (kR x = kR y ∧ cB x.Who y.Who < 0)))):=by simp [DC]
theorem PQ (x y z : Dm) (h1 : DC x y = true) (h2 : DC y z = true) : DC x z = true:=by
 rw [BZ] at *
 rcases h1 with h1 | ⟨e1,h1⟩
 ·rcases h2 with h2 | ⟨e2,_⟩
  ·exact .inl (BY h1 h2)
  ·exact .inl (by rw [← e2]; exact h1)
 ·rcases h2 with h2 | ⟨e2,h2⟩
  ·exact .inl (by rw [e1]; exact h2)
  ·refine .inr ⟨e1.trans e2,?_⟩
   rcases h1 with h1 | ⟨k1,h1⟩
   ·rcases h2 with h2 | ⟨k2,_⟩ <;> exact .inl (by omega)
   ·rcases h2 with h2 | ⟨k2,h2⟩
    ·exact .inl (by omega)
    ·exact .inr ⟨by omega,BY h1 h2⟩
def RR (x : Dm) : Prop:=0 ≤ x.Rank ∧ x.Rank ≤ 300
theorem VF {x : Dm} (h : RR x) : 1 ≤ kR x ∧ kR x ≤ 301:=by
 unfold kR; have:=h.1; have:=h.2; split <;> omega
def FI : List ByteArray:=[Wz,BE,BF,BG,k_eve]
def JA : List ByteArray:=[Qh,Tj,Wd]
def GQ : List ByteArray:=[Uf,Uf,EK,k_grey,An]
structure O0 (race : ByteArray) (rel : Bool) (o : List Dm) : Prop where
 len : o.length ≤ 5
 row : ∀ x ∈ o,x.Race = race ∧ x.Relay = rel ∧ x.Who ∈ FI ∧ x.Club ∈ GQ ∧ 0 ≤ x.Rank ∧ x.Rank ≤ 4
 who : o.Pairwise fun x y=>x.Who ≠ y.Who
section
variable {L : List Int} (hL : FE L)
include hL
end
def rk (o : List Dm) (r : Int) : Nat:=1 + o.countP fun z=>decide (0 < z.Rank) && decide (z.Rank < r)
def hR (o : List Dm) (x : Dm) : Dm:=Dm.mk x.Race x.Who x.Club (if 0 < x.Rank then (rk o x.Rank : Int) else 0) x.Relay
def g5 (x : Dm) : Dm:=Dm.mk x.Race x.Who x.Club (W (Int.tdiv x.Rank 10)) x.Relay
section
variable {L : List Int} (hL : FE L)
include hL
end
end Go.Proofs.YtfcmmengcdebnaaGreatDoor
/- What the stream gives of deeds: their names are of a few,their moments early. No program stands here but its twins. -/
namespace Go.Proofs.YtfcmmengcdebnaaGreatDoor
open Go
def FJ : List ByteArray:=[Wz,BE,BF,BG,An]
def Ye : List ByteArray:=[Uf,EK,An,k_A]
def CA : List ByteArray:=[Qh,Tj,OX,An]
def Yf : List ByteArray:=[Sm,FQ,An]
structure KX (d : Dk) : Prop where
 site : d.Site ∈ Yf
 who : d.Who ∈ FJ
 club : d.Club ∈ Ye
 race : d.Race ∈ CA
 of_ : d.Of ∈ Yf
 at_ : 0 ≤ d.At ∧ d.At ≤ 80
theorem Ur {κ R : Type} {K : κ} {f : κ → R} (Pr : R → Prop) (p : κ → Prop) (hK : p K) (hf : ∀ K',p K' → Pr (f K')) : Pr (Gj K f):=hf K hK
def Uc (j : List (ByteArray × Int) → List Dk → Int → Option (List Dk × Int)) (a : Int) (m n : Nat) (r : Option (List Dk × Int)) : Prop :=
 ∃ mm x b,r = j mm x b ∧ a ≤ b ∧ b ≤ a + 20 * (m : Int) ∧ x.length ≤ n ∧ ∀ d ∈ x,KX d
theorem KY : An ∈ FJ ∧ An ∈ Ye ∧ An ∈ CA ∧ An ∈ Yf:=by simp [FJ,Ye,CA,Yf]
section
variable {L : List Int} (hL : FE L)
include hL
theorem OB (many : Int) (hm : many ≤ 16) (j : List (ByteArray × Int) → List Dk → Int → Option ((List Dk) × Int)) : ∀ (m : Nat) (x1 : List (ByteArray × Int)) (x2 : List Dk) (a x4 x5 : Int),0 ≤ x5 → many - x5 < (m : Int) → 0 ≤ a → a + 20 * m ≤ 10000000 → x2.length + m ≤ 1000 → (∀ e,0 ≤ Ea x1 e 0 ∧ Ea x1 e 0 ≤ x5) →
  0 ≤ x4 → x4 ≤ 5 * x5 → (∀ d ∈ x2,KX d) → Uc j a m (x2.length + (many - x5).toNat) (Mz many L j (m + 1) x1 x2 a x4 x5)
 | m,x1,x2,a,x4,x5,h1,h2,h3,h4,h5,hx,h6,h7,hN=>by
  rw [Mz]
  by_cases hc : x5 < many
  ·rw [if_pos (decide_eq_true hc)]
   cases m with
   | zero=>omega
   | succ m =>
    obtain ⟨v1,b1,e1,g1,g2,hv1⟩:=Rv hL (a:=a) h3 (by omega) [0,1,5] (by simp) (by simp)
    have hv1' : 0 ≤ v1 ∧ v1 ≤ 5:=by simp only [List.mem_cons,List.not_mem_nil,or_false] at hv1; omega
    rw [e1]; simp only [Option.bind_some]
    obtain ⟨v2,b2,e2,g3,g4,hv2⟩:=Xq hL (a:=b1) (by omega) (by omega) [Sm,Sm,FQ] (by simp) (by simp)
    have hv2' : v2 ∈ Yf:=by simp only [List.mem_cons,List.not_mem_nil,or_false] at hv2; unfold Yf; rcases hv2 with rfl | rfl | rfl <;> simp
    rw [e2]; simp only [Option.bind_some]
    obtain ⟨v3,b3,e3,g5,g6,_⟩:=Rv hL (a:=b2) (by omega) (by omega) [1,1,1,3,3,3,2,4] (by simp) (by simp)
    rw [e3]; simp only [Option.bind_some]
    have hx' : ∀ e,0 ≤ Ea (Gl x1 v2 (W ((Ea x1 v2 0) + 1))) e 0 ∧ Ea (Gl x1 v2 (W ((Ea x1 v2 0) + 1))) e 0 ≤ x5 + 1:=fun e=>by
     have q1:=hx v2
     have q2:=hx e
     rw [Wt,Nu (by omega) (by omega)]
     split <;> omega
    refine Ur (Uc j a (m + 1) (x2.length + (many - x5).toNat)) (fun K=>∀ s1 s2 c,s1 ∈ FJ → s2 ∈ CA → a ≤ c → c ≤ a + 5 → Uc j a (m + 1) (x2.length + (many - x5).toNat) (K s1 s2 c)) ?_ ?_
    ·intro s1 s2 c hs1 hs2 hc1 hc2
     refine Ur (Uc j a (m + 1) (x2.length + (many - x5).toNat)) (fun K=>∀ u1 u2 u3 u4 u5 c,u1 ∈ Ye → u4 ∈ Yf → a ≤ c → c ≤ a + 8 → Uc j a (m + 1) (x2.length + (many - x5).toNat) (K u1 u2 u3 u4 u5 c)) ?_ ?_
     ·intro u1 u2 u3 u4 u5 c hu1 hu4 hc1 hc2
      obtain ⟨f,d0,t0,y1,y2,_⟩:=RD hL (a:=c) (by omega) (by omega) 100 (by omega)
      rw [t0]; simp only [Option.bind_some]
      refine Ur (Uc j a (m + 1) (x2.length + (many - x5).toNat)) (fun K=>∀ t0 t1 t2 t3 t4 t5 t6 t7 t8 c,t0 ∈ Yf → t3 ∈ FJ → t4 ∈ Ye → t5 ∈ CA → a ≤ c → c ≤ a + 17 → Uc j a (m + 1) (x2.length + (many - x5).toNat) (K t0 t1 t2 t3 t4 t5 t6 t7 t8 c)) ?_ ?_
      ·intro q0 q1 q2 q3 q4 q5 q6 q7 q8 c hq0 hq3 hq4 hq5 hc1 hc2
       have hw4 : W (x4 + v1) = x4 + v1:=Nu (by omega) (by omega)
       rw [Fx (by unfold Rw; exact decide_eq_true (by omega)),Nu (n:=x5 + 1) (by omega) (by omega)]
       obtain ⟨mm,x,b,r1,r2,r3,r4,r5⟩:=OB many hm j m _ (x2 ++ [Dk.mk q0 q1 (W (x4 + v1)) q2 q3 q4 q5 q6 q7 u4 q8]) c (W (x4 + v1)) (x5 + 1) (by omega) (by omega) (by omega) (by omega) (by simp; omega) hx' (by omega) (by omega) (fun d hd=>by
        rcases List.mem_append.1 hd with hd | hd
        ·exact hN d hd
        ·rw [List.mem_singleton] at hd
         subst hd
         exact ⟨hq0,hq3,hq4,hq5,hu4,by show 0 ≤ W (x4 + v1) ∧ W (x4 + v1) ≤ 80; omega⟩)
       exact ⟨mm,x,b,r1,by omega,by push_cast; omega,by simp at r4; omega,r5⟩
      ·intro K7 hK7
       have hno : Uc j a (m + 1) (x2.length + (many - x5).toNat) (K7 v2 (Ea (Gl x1 v2 (W ((Ea x1 v2 0) + 1))) v2 0) v3 s1 u1 s2 u2 u3 u5 d0):=hK7 _ _ _ _ _ _ _ _ _ _ hv2' hs1 hu1 hs2 (by omega) (by omega)
       cases f with
       | false=>rw [if_neg (by simp)]; exact hno
       | true =>
        rw [if_pos rfl]
        obtain ⟨n,d1,t1,y3,y4,_⟩:=next_dr hL (a:=d0) (by omega) (by omega) 4 (by omega)
        rw [t1]; simp only [Option.bind_some]
        refine Ur (Uc j a (m + 1) (x2.length + (many - x5).toNat)) (fun K=>∀ t0 t1 t2 t3 t4 t5 t6 t7 t8 c,t0 ∈ Yf → t3 ∈ FJ → t4 ∈ Ye → t5 ∈ CA → a ≤ c → c ≤ a + 17 → Uc j a (m + 1) (x2.length + (many - x5).toNat) (K t0 t1 t2 t3 t4 t5 t6 t7 t8 c)) ?_ ?_
        ·exact hK7
        intro K8 hK8
        refine Ur (Uc j a (m + 1) (x2.length + (many - x5).toNat)) (fun K=>∀ t0 t1 t2 t3 t4 t5 t6 t7 t8 c,t0 ∈ Yf → t3 ∈ FJ → t4 ∈ Ye → t5 ∈ CA → a ≤ c → c ≤ a + 17 → Uc j a (m + 1) (x2.length + (many - x5).toNat) (K t0 t1 t2 t3 t4 t5 t6 t7 t8 c)) ?_ ?_
        ·exact hK8
        intro K9 hK9
        split
        ·skip
         obtain ⟨z1,m1,oz1,pz1,qz1,hz1⟩:=Xq hL (a:=d1) (by omega) (by omega) [An,Sm] (by simp) (by simp)
         rw [oz1]; simp only [Option.bind_some]
         obtain ⟨z2,m2,oz2,pz2,qz2,_⟩:=IS hL (a:=m1) (by omega) (by omega) 1 9 (by omega) (by omega) (by omega)
         rw [oz2]; simp only [Option.bind_some]
         exact hK9 _ _ _ _ _ _ _ _ _ _ (by simp only [List.mem_cons,List.not_mem_nil,or_false] at hz1; unfold Yf; rcases hz1 with rfl | rfl <;> simp) hs1 hu1 hs2 (by omega) (by omega)
        ·refine Ur (Uc j a (m + 1) (x2.length + (many - x5).toNat)) (fun K=>∀ t0 t1 t2 t3 t4 t5 t6 c,t1 ∈ FJ → t2 ∈ Ye → t3 ∈ CA → a ≤ c → c ≤ a + 17 → Uc j a (m + 1) (x2.length + (many - x5).toNat) (K t0 t1 t2 t3 t4 t5 t6 c)) ?_ ?_
         ·intro q0 q1 q2 q3 q4 q5 q6 c hq1 hq2 hq3 hc1 hc2; exact hK9 _ _ _ _ _ _ _ _ _ _ hv2' hq1 hq2 hq3 (by omega) (by omega)
         intro K10 hK10
         split
         ·skip
          obtain ⟨z1,m1,oz1,pz1,qz1,_⟩:=IS hL (a:=d1) (by omega) (by omega) 1 4 (by omega) (by omega) (by omega)
          rw [oz1]; simp only [Option.bind_some]
          exact hK10 _ _ _ _ _ _ _ _ hs1 hu1 hs2 (by omega) (by omega)
         ·refine Ur (Uc j a (m + 1) (x2.length + (many - x5).toNat)) (fun K=>∀ t0 t1 t2 t3 t4 t5 c,t0 ∈ FJ → t1 ∈ Ye → t2 ∈ CA → a ≤ c → c ≤ a + 17 → Uc j a (m + 1) (x2.length + (many - x5).toNat) (K t0 t1 t2 t3 t4 t5 c)) ?_ ?_
          ·intro q0 q1 q2 q3 q4 q5 c hq0 hq1 hq2 hc1 hc2; exact hK10 _ _ _ _ _ _ _ _ hq0 hq1 hq2 (by omega) (by omega)
          intro K11 hK11
          split
          ·skip
           obtain ⟨z1,m1,oz1,pz1,qz1,hz1⟩:=Xq hL (a:=d1) (by omega) (by omega) [An,Wz] (by simp) (by simp)
           rw [oz1]; simp only [Option.bind_some]
           obtain ⟨z2,m2,oz2,pz2,qz2,hz2⟩:=Xq hL (a:=m1) (by omega) (by omega) [k_A,Uf] (by simp) (by simp)
           rw [oz2]; simp only [Option.bind_some]
           obtain ⟨z3,m3,oz3,pz3,qz3,hz3⟩:=Xq hL (a:=m2) (by omega) (by omega) [An,Qh] (by simp) (by simp)
           rw [oz3]; simp only [Option.bind_some]
           simp only [List.mem_cons,List.not_mem_nil,or_false] at hz1 hz2 hz3
           exact hK11 _ _ _ _ _ _ _ (by unfold FJ; rcases hz1 with rfl | rfl <;> simp) (by unfold Ye; rcases hz2 with rfl | rfl <;> simp) (by unfold CA; rcases hz3 with rfl | rfl <;> simp) (by omega) (by omega)
          ·skip
           obtain ⟨z1,m1,oz1,pz1,qz1,_⟩:=IS hL (a:=d1) (by omega) (by omega) 0 360000 (by omega) (by omega) (by omega)
           rw [oz1]; simp only [Option.bind_some]
           obtain ⟨z2,m2,oz2,pz2,qz2,_⟩:=IS hL (a:=m1) (by omega) (by omega) 0 8 (by omega) (by omega) (by omega)
           rw [oz2]; simp only [Option.bind_some]
           obtain ⟨z3,m3,oz3,pz3,qz3,_⟩:=IS hL (a:=m2) (by omega) (by omega) 0 5 (by omega) (by omega) (by omega)
           rw [oz3]; simp only [Option.bind_some]
           exact hK11 _ _ _ _ _ _ _ hs1 hu1 hs2 (by omega) (by omega)
     ·intro K3 hK3
      refine Ur (Uc j a (m + 1) (x2.length + (many - x5).toNat)) (fun K=>∀ t0 t1 t2 t3 t4 c,t0 ∈ Ye → t3 ∈ Yf → a ≤ c → c ≤ a + 8 → Uc j a (m + 1) (x2.length + (many - x5).toNat) (K t0 t1 t2 t3 t4 c)) ?_ ?_
      ·exact hK3
      intro K4 hK4
      split
      ·skip
       obtain ⟨z1,m1,oz1,pz1,qz1,hz1⟩:=Xq hL (a:=c) (by omega) (by omega) [Uf,EK,An] (by simp) (by simp)
       rw [oz1]; simp only [Option.bind_some]
       obtain ⟨z2,m2,oz2,pz2,qz2,_⟩:=Rv hL (a:=m1) (by omega) (by omega) [0,5900,6000,7000] (by simp) (by simp)
       rw [oz2]; simp only [Option.bind_some]
       simp only [List.mem_cons,List.not_mem_nil,or_false] at hz1
       exact hK4 _ _ _ _ _ _ (by unfold Ye; rcases hz1 with rfl | rfl | rfl <;> simp) KY.2.2.2 (by omega) (by omega)
      ·refine Ur (Uc j a (m + 1) (x2.length + (many - x5).toNat)) (fun K=>∀ t0 t1 t2 t3 c,t2 ∈ Yf → a ≤ c → c ≤ a + 8 → Uc j a (m + 1) (x2.length + (many - x5).toNat) (K t0 t1 t2 t3 c)) ?_ ?_
       ·intro q0 q1 q2 q3 c hq2 hc1 hc2; exact hK4 _ _ _ _ _ _ KY.2.1 hq2 (by omega) (by omega)
       intro K5 hK5
       split
       ·skip
        obtain ⟨z1,m1,oz1,pz1,qz1,_⟩:=Rv hL (a:=c) (by omega) (by omega) [0,5900,5900,6000,6100] (by simp) (by simp)
        rw [oz1]; simp only [Option.bind_some]
        obtain ⟨z2,m2,oz2,pz2,qz2,_⟩:=Rv hL (a:=m1) (by omega) (by omega) [0,0,0,0,3] (by simp) (by simp)
        rw [oz2]; simp only [Option.bind_some]
        exact hK5 _ _ _ _ _ KY.2.2.2 (by omega) (by omega)
       ·refine Ur (Uc j a (m + 1) (x2.length + (many - x5).toNat)) (fun K=>∀ t0 t1 c,t0 ∈ Yf → a ≤ c → c ≤ a + 8 → Uc j a (m + 1) (x2.length + (many - x5).toNat) (K t0 t1 c)) ?_ ?_
        ·intro q0 q1 c hq0 hc1 hc2; exact hK5 _ _ _ _ _ hq0 (by omega) (by omega)
        intro K6 hK6
        split
        ·skip
         obtain ⟨z1,m1,oz1,pz1,qz1,hz1⟩:=Xq hL (a:=c) (by omega) (by omega) [Sm,Sm,FQ] (by simp) (by simp)
         rw [oz1]; simp only [Option.bind_some]
         have hb : FL 1 (Ea (Gl x1 v2 (W ((Ea x1 v2 0) + 1))) Sm 0) ≤ 1000:=by
          have hz:=(hx' Sm).2
          have hmx : ∀ z : Int,z ≤ x5 + 1 → FL 1 z ≤ 1000:=fun z hz=>by
           unfold FL
           by_cases hq : z > 1
           ·rw [if_pos hq]; omega
           ·rw [if_neg hq]; omega
          exact hmx _ hz
         obtain ⟨z2,m2,oz2,pz2,qz2,_⟩:=Zk hL (a:=m1) (by omega) (by omega) 1 (FL 1 (Ea (Gl x1 v2 (W ((Ea x1 v2 0) + 1))) Sm 0)) (by omega) (by omega) (by omega)
         rw [oz2]; simp only [Option.bind_some]
         simp only [List.mem_cons,List.not_mem_nil,or_false] at hz1
         exact hK6 _ _ _ (by unfold Yf; rcases hz1 with rfl | rfl | rfl <;> simp) (by omega) (by omega)
        ·exact hK6 _ _ _ KY.2.2.2 (by omega) (by omega)
    ·intro K hK
     split
     ·obtain ⟨w1,c1,t1,q1,q2,hw1⟩:=Xq hL (a:=b3) (by omega) (by omega) [Wz,BE,BF,BG] (by simp) (by simp)
      rw [t1]; simp only [Option.bind_some]
      obtain ⟨w2,c2,t2,q3,q4,hw2⟩:=Xq hL (a:=c1) (by omega) (by omega) [Qh,Qh,Tj,OX] (by simp) (by simp)
      rw [t2]; simp only [Option.bind_some]
      simp only [List.mem_cons,List.not_mem_nil,or_false] at hw1 hw2
      exact hK _ _ _ (by unfold FJ; rcases hw1 with rfl | rfl | rfl | rfl <;> simp) (by unfold CA; rcases hw2 with rfl | rfl | rfl | rfl <;> simp) (by omega) (by omega)
     ·exact hK _ _ _ KY.1 KY.2.2.1 (by omega) (by omega)
  ·rw [if_neg (by simpa using hc)]
   exact ⟨x1,x2,a,rfl,by omega,by omega,by omega,hN⟩
theorem TK (many : Int) (h0 : 0 ≤ many) (hm : many ≤ 16) {a : Int} (ha : 0 ≤ a) (ha' : a ≤ 5000000) : ∃ l b,Vi L a many = some (l,b) ∧ a ≤ b ∧ b ≤ a + 400 ∧ (l.length : Int) ≤ many ∧ ∀ d ∈ l,KX d:=by
 obtain ⟨k,rfl⟩:=Int.eq_ofNat_of_zero_le h0
 unfold Vi
 simp only [On]
 obtain ⟨mm,x,b,e,g1,g2,g3,g4⟩:=OB hL (k : Int) (by omega) (fun (x1 : List (ByteArray × Int)) (x2 : List Dk) (x3 : Int)=>Option.bind (Hr x2) (fun r23=>some (r23,x3))) (k + 1) [] [] a 0 0 (by omega) (by omega) ha (by omega) (by simp; omega) (by simp [Ea,Qy,Oc]) (by omega) (by omega) (fun _ h=>by cases h)
 simp only [List.length_nil,Nat.zero_add] at g3
 rw [show (((k : Int) - 0).toNat + 2) = k + 1 + 1 by omega,e]
 dsimp only
 rw [PH x (by omega)]
 exact ⟨_,_,rfl,g1,by push_cast at g2; omega,by rw [Yc]; omega,fun d hd=>g4 d ((Xt _ _ _).1 hd)⟩
theorem OC (many : Int) (h0 : 0 ≤ many) (hm : many ≤ 16) : ∀ (m : Nat) (a x : Int),0 ≤ x ∧ x ≤ 5 → 5 - x < (m : Int) → 0 ≤ a → a + 400 * m ≤ 5000000 →
  ∃ l b,Jz L many (fun x1=>some (([] : List Dk),x1)) m a x = some (l,b) ∧ a ≤ b ∧ b ≤ a + 400 * m ∧ (l.length : Int) ≤ many ∧ DsG l ∧ ∀ d ∈ l,KX d
 | 0,a,x,h1,h2,_,_=>by omega
 | m + 1,a,x,h1,h2,h3,h4=>by
  rw [Jz]
  by_cases hc : x < 5
  ·rw [if_pos (decide_eq_true hc)]
   obtain ⟨l,b,e,g1,g2,g3,g4⟩:=TK hL many h0 hm (a:=a) h3 (by omega)
   rw [e]; simp only [Option.bind_some]
   obtain ⟨f,_,f2,f3⟩:=PF l
   rw [f2]; simp only [Option.bind_some]
   by_cases hf : f = 0
   ·rw [if_pos (decide_eq_true hf)]
    exact ⟨l,b,rfl,g1,by push_cast; omega,g3,f3 hf,g4⟩
   ·rw [if_neg (by simpa using hf),Nu (by omega) (by omega)]
    obtain ⟨l2,b2,e2,q1,q2,q3,q4⟩:=OC many h0 hm m b (x + 1) (by omega) (by omega) (by omega) (by omega)
    exact ⟨l2,b2,e2,by omega,by push_cast; omega,q3,q4⟩
  ·rw [if_neg (by simpa using hc)]
   exact ⟨[],a,rfl,by omega,by push_cast; omega,by simp; omega,⟨by simp,by simp,fun d x y r h=>by simp at h,by simp⟩,fun _ h=>by cases h⟩
theorem TL (many : Int) (h0 : 0 ≤ many) (hm : many ≤ 16) {a : Int} (ha : 0 ≤ a) (ha' : a ≤ 1000000) : ∃ l b,Rd L a many = some (l,b) ∧ a ≤ b ∧ b ≤ a + 2800 ∧ (l.length : Int) ≤ many ∧ DsG l ∧ ∀ d ∈ l,KX d:=by
 unfold Rd
 rw [On]
 obtain ⟨l,b,e,g1,g2,g3,g4⟩:=OC hL many h0 hm 7 a 0 (by omega) (by omega) ha (by omega)
 exact ⟨l,b,e,g1,by omega,g3,g4⟩
end
end Go.Proofs.YtfcmmengcdebnaaGreatDoor
namespace Go.Proofs.YtfcmmengcdebnaaGreatDoor
open Go
theorem RV (P : List Dy) (v : Dy) (Q : List Dy) : nth (P ++ v :: Q) (P.length : Int) = v:=by unfold nth; simp
theorem RW (P : List Dy) (v u : Dy) (Q : List Dy) : (P ++ v :: Q).set P.length u = P ++ u :: Q:=by simp
theorem VG (j : List Dy → Option (List Dy)) : ∀ (k m : Nat) (A M B : List Dy),M.length ≤ k → M.length < m → A.length + M.length + B.length ≤ 1000000 →
  Ja j m (A ++ (M ++ B)) (A.length : Int) ((A.length : Int) + (M.length : Int) - 1) = j (A ++ (M.reverse ++ B))
 | k,0,A,M,B,_,h,_=>by omega
 | k,m + 1,A,M,B,hk,hm,hl=>by
  rw [Ja]
  match M,hk,hm,hl with
  | [],_,_,_=>rw [if_neg (by simp; omega)]; rfl
  | [z],_,_,_=>rw [if_neg (by simp)]; rfl
  | a :: z :: M1,hk,hm,hl =>
   obtain ⟨M2,b,hM⟩ : ∃ M2 b,z :: M1 = M2 ++ [b]:=by
    rcases List.eq_nil_or_concat (z :: M1) with h | ⟨M2,b,h⟩
    ·cases h
    ·exact ⟨M2,b,by rw [h]; simp⟩
   rw [hM] at hk hm hl ⊢
   simp only [List.length_cons,List.length_append,List.length_nil] at hk hm hl ⊢
   have hlen : (A ++ (a :: (M2 ++ [b]) ++ B)).length = A.length + M2.length + 2 + B.length:=by simp; omega
   have e3 : (A.length : Int) + ((M2.length + (0 + 1) + 1 : Nat) : Int) - 1 = ((A.length + M2.length + 1 : Nat) : Int):=by omega
   rw [e3,if_pos (decide_eq_true (by omega))]
   have n2 : nth (A ++ (a :: (M2 ++ [b]) ++ B)) (A.length : Int) = a:=by rw [List.cons_append]; exact RV _ _ _
   have h1 : A ++ (a :: (M2 ++ [b]) ++ B) = (A ++ a :: M2) ++ b :: B:=by simp
   have h2 : (A ++ a :: M2).length = A.length + M2.length + 1:=by simp; omega
   have n3 : nth (A ++ (a :: (M2 ++ [b]) ++ B)) ((A.length + M2.length + 1 : Nat) : Int) = b:=by
    rw [h1,← h2]; exact RV _ _ _
   have hs : ((A ++ (a :: (M2 ++ [b]) ++ B)).set ((A.length : Int)).toNat b).set (((A.length + M2.length + 1 : Nat) : Int)).toNat a = (A ++ [b]) ++ (M2 ++ (a :: B)):=by
    rw [Int.toNat_natCast,Int.toNat_natCast]
    have q1 : (A ++ (a :: (M2 ++ [b]) ++ B)).set A.length b = (A ++ b :: M2) ++ b :: B:=by
     rw [List.cons_append,RW]; simp
    have q2 : (A ++ b :: M2).length = A.length + M2.length + 1:=by simp; omega
    rw [q1,← q2,RW]
    simp
   rw [Fx (Jf.2 (by omega)),Fx (Jf.2 (by omega)),Fx (Jf.2 (by omega)),Fx (Jf.2 (by rw [List.length_set]; omega)),n2,n3,hs,Nu (by omega) (by omega),Nu (by omega) (by omega)]
   have ih:=VG j (k - 2) m (A ++ [b]) M2 (a :: B) (by omega) (by omega) (by simp; omega)
   have e1 : (((A ++ [b]).length : Nat) : Int) = (A.length : Int) + 1:=by simp
   rw [e1] at ih
   have e2 : (A.length : Int) + 1 + (M2.length : Int) - 1 = ((A.length + M2.length + 1 : Nat) : Int) - 1:=by omega
   rw [e2] at ih
   rw [ih]
   simp
theorem OD (l : List Dy) (hl : l.length ≤ 1000000) : Pn l = some l.reverse:=by
 unfold Pn
 rw [Jc,Nu (by omega) (by omega)]
 have h:=VG (fun x=>some x) l.length (((l.length : Int) - 1 - 0).toNat + 2) [] l [] (Nat.le_refl _) (by omega) (by simp; omega)
 simpa using h
theorem TM {s : ByteArray} (h : s ∈ [Qh,Tj,Wd]) : Gf s = some true:=by
 have key : ∀ s ∈ [Qh,Tj,Wd],Gf s = some true:=by decide +kernel
 exact key s h
section
variable {L : List Int} (hL : FE L)
include hL
theorem VH {a : Int} (h0 : 0 ≤ a) (h1 : a ≤ 100000000) (key : ByteArray) (hk : key ∈ [Qh,Tj,Wd]) : Dr a 7 (fun r=>r.Key = key ∧ Nw r = some 0) (Sn L a key):=by
 unfold Sn
 obtain ⟨v1,b1,e1,g1,g2,q1⟩:=Rv hL h0 (by omega) [50,100,200] (by simp) (by simp)
 rw [e1]; simp only [Option.bind_some]
 obtain ⟨v2,b2,e2,g3,g4,q2⟩:=Rv hL (a:=b1) (by omega) (by omega) [1,2,3,4] (by simp) (by simp)
 rw [e2]; simp only [Option.bind_some]
 obtain ⟨v3,b3,e3,g5,g6,q3⟩:=Rv hL (a:=b2) (by omega) (by omega) [25,50] (by simp) (by simp)
 rw [e3]; simp only [Option.bind_some]
 obtain ⟨v4,b4,e4,g7,g8,q4⟩:=Rv hL (a:=b3) (by omega) (by omega) [1,1,1,4] (by simp) (by simp)
 rw [e4]; simp only [Option.bind_some]
 obtain ⟨v5,b5,e5,g9,g10,q5⟩:=Rv hL (a:=b4) (by omega) (by omega) [0,1,2] (by simp) (by simp)
 rw [e5]; simp only [Option.bind_some]
 obtain ⟨v6,b6,e6,g11,g12,q6⟩:=Rv hL (a:=b5) (by omega) (by omega) [0,0,5,10] (by simp) (by simp)
 rw [e6]; simp only [Option.bind_some]
 obtain ⟨v7,b7,e7,g13,g14,q7⟩:=Rv hL (a:=b6) (by omega) (by omega) [0,5,90] (by simp) (by simp)
 rw [e7]; simp only [Option.bind_some]
 refine ⟨_,_,rfl,by omega,by omega,rfl,?_⟩
 simp only [List.mem_cons,List.not_mem_nil,or_false] at q1 q2 q3 q4 q5 q6 q7
 have w : W (v6 + v7) = v6 + v7:=Nu (by omega) (by omega)
 unfold Nw
 simp only [TM hk,Option.bind_some,Bool.not_true,Bool.false_eq_true,if_false,Jc,w]
 have c1 : ((!(Dv v2 1 5)) || (!(Dv v5 0 2))) = false:=by
  unfold Dv; simp; omega
 have c2 : (((((((!decide (v3 = 25)) && (!decide (v3 = 50))) || (!(Dv v4 1 4))) || (!(Dv v1 25 1500))) || (decide (v6 < 0))) || (decide (v6 + v7 < v6))) || (decide (120 < v6 + v7))) = false:=by
  unfold Dv; simp; omega
 have c3 : (!decide (v3 = 0)) = true:=by simp; omega
 have c4 : (!decide (Int.tmod v1 v3 = 0)) = false:=by rcases q1 with rfl | rfl | rfl <;> rcases q3 with rfl | rfl <;> decide +kernel
 have c5 : decide (v2 = 5) = false:=by simp; omega
 simp only [c1,c2,Fx c3,c4,c5,Bool.false_eq_true,if_false,Bool.false_and]
theorem JB : ∀ (ys : List ByteArray) (i : Nat) (x1 : List Dy) (a : Int),0 ≤ a → a + 8 * ys.length ≤ 10000000 → x1.length + ys.length ≤ 1000 → (∀ y ∈ ys,y ∈ [Qh,Tj,Wd]) → ys.Nodup → (∀ x ∈ x1,(Nw x = some 0 ∧ x.Key ∈ [Qh,Tj,Wd]) ∧ x.Key ∉ ys) → (x1.map (·.Key)).Nodup →
  ∃ x b,Ki L (fun x a=>some (x,a)) ys i x1 a = some (x,b) ∧ a ≤ b ∧ b ≤ a + 8 * ys.length ∧ x.length ≤ x1.length + ys.length ∧ (∀ z ∈ x,Nw z = some 0 ∧ z.Key ∈ [Qh,Tj,Wd]) ∧ (x.map (·.Key)).Nodup
 | [],i,x1,a,_,_,_,_,_,h5,h6=>⟨x1,a,rfl,Int.le_refl _,by simp,by simp,fun z hz=>(h5 z hz).1,h6⟩
 | y :: ys,i,x1,a,h0,h1,h2,h3,h4,h5,h6=>by
  rw [Ki]
  rw [List.nodup_cons] at h4
  simp only [List.length_cons] at h1 h2 ⊢
  obtain ⟨f,b,e,g1,g2,_⟩:=RD hL h0 (by omega) 6 (by omega)
  rw [e]; simp only [Option.bind_some,Jc]
  cases f with
  | true =>
   rw [if_neg (by simp)]
   obtain ⟨x,c,e',g3,g4,g5,g6,g7⟩:=JB ys (i + 1) x1 b (by omega) (by omega) (by omega) (fun z hz=>h3 z (List.mem_cons_of_mem _ hz)) h4.2 (fun x hx=>⟨(h5 x hx).1,fun hz=>(h5 x hx).2 (List.mem_cons_of_mem _ hz)⟩) h6
   exact ⟨x,c,e',by omega,by omega,by omega,g6,g7⟩
  | false =>
   rw [if_pos (by simp)]
   obtain ⟨s,b2,e2,g3,g4,q1,q2⟩:=VH hL (a:=b) (by omega) (by omega) y (h3 y List.mem_cons_self)
   rw [e2]; simp only [Option.bind_some]
   rw [Fx (by unfold Rw; simp; omega)]
   obtain ⟨x,c,e',g7,g8,g9,g10,g11⟩:=JB ys (i + 1) (x1 ++ [s]) b2 (by omega) (by omega) (by simp; omega) (fun z hz=>h3 z (List.mem_cons_of_mem _ hz)) h4.2
    (fun x hx=>by
     rcases List.mem_append.1 hx with h | h
     ·exact ⟨(h5 x h).1,fun hz=>(h5 x h).2 (List.mem_cons_of_mem _ hz)⟩
     ·rw [List.mem_singleton] at h; subst h; exact ⟨⟨q2,by rw [q1]; exact h3 y List.mem_cons_self⟩,by rw [q1]; exact h4.1⟩)
    (by
     rw [List.map_append,List.nodup_append]
     refine ⟨h6,by simp,fun u hu v hv=>?_⟩
     simp only [List.map_cons,List.map_nil,List.mem_singleton] at hv
     obtain ⟨x,hx,rfl⟩:=List.mem_map.1 hu
     rw [hv,q1]
     rintro e
     exact (h5 x hx).2 (by rw [e]; exact List.mem_cons_self))
   simp only [List.length_append,List.length_singleton] at g9
   exact ⟨x,c,e',by omega,by omega,by omega,g10,g11⟩
end
structure Wf (p : Iw) : Prop where
 few : p.Races.length ≤ 3
 races : ∀ r ∈ p.Races,Nw r = some 0 ∧ r.Key ∈ [Qh,Tj,Wd]
 keys : (p.Races.map (·.Key)).Nodup
 table : KW p.Table
 final : Qw p.Final = 0
theorem VI {L : List Int} (hL : FE L) {a : Int} (h0 : 0 ≤ a) (h1 : a ≤ 50000) : Dr a 37 Wf (Ry L a):=by
 unfold Ry Tv
 simp only [On]
 obtain ⟨x,b1,e1,p1,q1,x1,x2,x3⟩:=JB hL [Qh,Tj,Wd] 0 [] a h0 (by simp; omega) (by simp) (fun _ h=>h) (by decide +kernel) (fun _ h=>by cases h) (by simp)
 simp only [List.length_cons,List.length_nil,Nat.zero_add] at q1 x1
 rw [e1]; simp only [Option.bind_some]
 obtain ⟨t,b2,e2,p2,q2,t1⟩:=VE hL (a:=b1) (by omega) (by omega)
 rw [e2]; simp only [Option.bind_some]
 obtain ⟨v3,b3,e3,p3,q3,m3,n3⟩:=Zk hL (a:=b2) (by omega) (by omega) 1 3 (by omega) (by omega) (by omega)
 rw [e3]; simp only [Option.bind_some]
 obtain ⟨v4,b4,e4,p4,q4,m4,n4⟩:=Zk hL (a:=b3) (by omega) (by omega) 1 2 (by omega) (by omega) (by omega)
 rw [e4]; simp only [Option.bind_some]
 obtain ⟨v5,b5,e5,p5,q5,m5,n5⟩:=Zk hL (a:=b4) (by omega) (by omega) 0 2 (by omega) (by omega) (by omega)
 rw [e5]; simp only [Option.bind_some]
 rw [OD x (by omega)]; simp only [Option.bind_some]
 refine ⟨_,_,rfl,by omega,by push_cast at q1; omega,?_⟩
 refine ⟨by simp only [List.length_reverse]; omega,fun r hr=>x2 r (List.mem_reverse.1 hr),by rw [List.map_reverse]; exact (List.reverse_perm _).nodup_iff.2 x3,t1,?_⟩
 unfold Qw
 rw [if_neg]
 simp only [Dv,Bool.not_and,Bool.or_eq_true,Bool.not_eq_true',decide_eq_false_iff_not]
 simp
 omega
theorem contP (y : Dy) : ∀ (l : List Dy) (i : Nat),y.Key ∉ l.map (·.Key) → Fz y (-1) l i = -1
 | [],_,_=>rfl
 | x :: l,i,h=>by
  simp only [List.map_cons,List.mem_cons,not_or] at h
  rw [Fz]
  unfold Tc
  rw [if_neg (by simp only [decide_eq_true_eq]; exact fun e=>h.1 e.symm)]
  exact contP y l (i + 1) h.2
theorem GR (p : Iw) (h : Wf p) (j : Option Int) : ∀ (ys dn : List Dy),p.Races = dn ++ ys → Lu p j ys dn.length = j
 | [],_,_=>rfl
 | y :: ys,dn,he=>by
  have hy : y ∈ p.Races:=by rw [he]; simp
  have hc : cut p.Races 0 (dn.length : Int) = dn:=by rw [he]; unfold cut; simp
  have hk:=h.keys
  rw [he,List.map_append,List.map_cons,List.nodup_append] at hk
  have hn : y.Key ∉ dn.map (·.Key):=fun hm=>hk.2.2 _ hm _ List.mem_cons_self rfl
  rw [Lu,(h.races y hy).1]
  simp only [Option.bind_some,decide_true,Bool.not_true,Bool.false_eq_true,if_false]
  rw [Fx (Uz.2 (by rw [he]; simp; omega)),hc]
  have hf : Iq dn y = false:=by
   unfold Iq Kl
   rw [On,contP y dn 0 hn]
   rfl
  rw [hf,if_neg (by simp)]
  have:=GR p h j ys (dn ++ [y]) (by rw [he]; simp)
  rwa [List.length_append,List.length_singleton] at this
theorem MJ {p : Iw} (h : Wf p) : Tk p = some 0:=by
 have:=h.few
 unfold Tk
 rw [if_neg (by simp; omega),On]
 have hl:=GR p h (Option.bind (Oj p.Table) fun r2=>if !decide (r2 = 0) then some r2 else some (Qw p.Final)) p.Races [] rfl
 rw [List.length_nil] at hl
 rw [hl,OA h.table]
 simp only [Option.bind_some,decide_true,Bool.not_true,Bool.false_eq_true,if_false,h.final]
end Go.Proofs.YtfcmmengcdebnaaGreatDoor
