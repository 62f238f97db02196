/- The plain law of TopHeatsAreTimed. No program stands here but its twins. -/
import Derived.Test.YtdndpbbimcilpaaGreatDoorPDeedMerge
import Derived.KernelRfl
namespace Go.Proofs.YtdndpbbimcilpaaGreatDoor
open Go
def AC (at_ : Int) : List An → List (Dp × Bool) → List An
 | [],_=>[]
 | d :: ds,m=>if decide (at_ < d.At) || Ek m (Dw d) false then AC at_ ds m else
  d :: AC at_ ds (if decide (d.Kind = 4) then Fz m (Dp.mk d.Of d.Other) true else m)
def Sc (l : List An) (at_ : Int) : List An:=(AC at_ l.reverse []).reverse
def Yt (l : List An) (at_ : Int) : List Nat → List (Dp × Bool) → List Nat
 | [],_=>[]
 | i :: is,m=>if decide (at_ < (nth l (i : Int)).At) || Ek m (Dw (nth l (i : Int))) false then Yt l at_ is m else
  i :: Yt l at_ is (if decide ((nth l (i : Int)).Kind = 4) then Fz m (Dp.mk (nth l (i : Int)).Of (nth l (i : Int)).Other) true else m)
theorem Vn (l : List An) (at_ : Int) : ∀ (is : List Nat) (m : List (Dp × Bool)),(Yt l at_ is m).Sublist is
 | [],_=>List.Sublist.refl _
 | i :: is,m=>by
  rw [Yt]
  split
  ·exact (Vn l at_ is m).cons i
  ·exact (Vn l at_ is _).cons_cons i
theorem AW (l : List An) (at_ : Int) : ∀ (is : List Nat) (m : List (Dp × Bool)),(Yt l at_ is m).map (fun (i : Nat)=>nth l (i : Int)) = AC at_ (is.map fun (i : Nat)=>nth l (i : Int)) m
 | [],_=>rfl
 | i :: is,m=>by
  rw [Yt,List.map_cons,AC]
  split
  ·exact AW l at_ is m
  ·rw [List.map_cons,AW l at_ is _]
theorem AX (at_ : Int) : ∀ (l : List An) (m : List (Dp × Bool)),(AC at_ l m).Sublist l
 | [],_=>List.Sublist.refl _
 | d :: l,m=>by
  rw [AC]
  split
  ·exact (AX at_ l m).cons d
  ·exact (AX at_ l _).cons_cons d
theorem Zj (l : List An) (at_ : Int) : (Sc l at_).Sublist l:=by
 have:=(AX at_ l.reverse []).reverse
 rwa [List.reverse_reverse] at this
theorem Zk (l : List An) (at_ : Int) : ∀ (is : List Nat) (m : List (Dp × Bool)) (x : List Int),x.length + is.length ≤ 1000000 →
  Im l at_ is m x = Lr (x ++ (Yt l at_ is m).map fun (i : Nat)=>(i : Int))
 | [],_,x,_=>by rw [Im]; simp [Yt]
 | i :: is,m,x,hl=>by
  simp only [List.length_cons] at hl
  rw [Im,Yt]
  unfold Sl
  by_cases h : (decide (at_ < (nth l (i : Int)).At) || Ek m (Dw (nth l (i : Int))) false) = true
  ·rw [if_pos h,if_pos h]
   exact Zk l at_ is m x (by omega)
  ·rw [if_neg h,if_neg h,Ij (by unfold Ti; exact decide_eq_true (by omega)),Zk l at_ is _ (x ++ [(i : Int)]) (by simp; omega)]
   simp
def ID (l : List An) (at_ : Int) : List Nat:=(Yt l at_ (Ts l.length) []).reverse
theorem HA (l : List An) (at_ : Int) (hl : l.length ≤ 1000000) : Sn l at_ = some ((ID l at_).map fun (i : Nat)=>(i : Int)):=by
 have h2 : (Ts l.length).length = l.length:=by simp [Ts]
 have h3:=(Vn l at_ (Ts l.length) []).length_le
 unfold Sn
 rw [Zk l at_ (Ts l.length) [] [] (by simp; omega),List.nil_append,IC _ (by rw [List.length_map]; omega),← List.map_reverse]
 rfl
theorem cntI_lt {l : List An} {at_ : Int} {i : Nat} (h : i ∈ ID l at_) : i < l.length:=by
 unfold ID at h
 rw [List.mem_reverse] at h
 have:=(Vn l at_ (Ts l.length) []).subset h
 unfold Ts at this
 simpa using this
theorem IE (l : List An) (at_ : Int) : (ID l at_).map (fun (i : Nat)=>nth l (i : Int)) = Sc l at_:=by
 unfold ID Sc
 rw [List.map_reverse,AW]
 congr 2
 unfold Ts
 rw [List.map_reverse,KU]
theorem ES (p : Ln) (l : List An) : ∀ (is : List Nat) (k : Nat) (x : List An),(∀ i ∈ is,i < l.length) → x.length + is.length ≤ 1000000 →
  Jm l (fun x1=>some (some (Ie.mk p x1))) (is.map fun (i : Nat)=>(i : Int)) k x = some (some (Ie.mk p (x ++ is.map fun (i : Nat)=>nth l (i : Int))))
 | [],k,x,_,_=>by simp [Jm]
 | i :: is,k,x,hi,hl=>by
  simp only [List.length_cons] at hl
  have h1:=hi i List.mem_cons_self
  rw [List.map_cons,Jm,Ij (Kp.2 ⟨by omega,by omega⟩),Ij (by unfold Ti; exact decide_eq_true (by omega)),ES p l is (k + 1) (x ++ [nth l (i : Int)]) (fun j hj=>hi j (List.mem_cons_of_mem _ hj)) (by simp; omega)]
  simp
theorem IF (p : Ln) (l : List An) (at_ : Int) (hl : l.length ≤ 1000000) : Rq p l at_ = some (some (Ie.mk p (Sc l at_))):=by
 have h3:=(Vn l at_ (Ts l.length) []).length_le
 have h2 : (Ts l.length).length = l.length:=by simp [Ts]
 unfold Rq
 rw [HA l at_ hl]
 simp only [Option.bind_some,Sb]
 rw [ES p l (ID l at_) 0 [] (fun i hi=>cntI_lt hi) (by unfold ID; simp; omega),List.nil_append,IE]
def MJ (race : ByteArray) (m : List (ByteArray × An)) (y : An) : List (ByteArray × An) :=
 if y.Race = race then if y.Kind = 1 then Fz m y.Who y else if y.Kind = 2 then Wj m y.Who else m else m
def DO (race : ByteArray) (l : List An) : List (ByteArray × An):=l.foldl (MJ race) []
def BQ (race : ByteArray) (l : List An) : List An:=Sh ltW ((DO race l).map (·.2))
theorem Ty (race : ByteArray) (j : List (ByteArray × An) → Option (List An)) : ∀ (ys : List An) (i : Nat) (m : List (ByteArray × An)),Jf race j ys i m = j (ys.foldl (MJ race) m)
 | [],_,m=>by rw [Jf]; rfl
 | y :: ys,i,m=>by
  rw [Jf]
  simp only [Sb,List.foldl_cons]
  unfold MJ
  by_cases hr : y.Race = race
  ·rw [if_neg (by simp [hr]),if_pos hr]
   by_cases h1 : y.Kind = 1
   ·rw [if_pos (decide_eq_true h1),if_pos h1]
    exact Ty race j ys (i + 1) _
   ·rw [if_neg (by simpa using h1),if_neg h1]
    by_cases h2 : y.Kind = 2
    ·rw [if_pos (decide_eq_true h2),if_pos h2]
     exact Ty race j ys (i + 1) _
    ·rw [if_neg (by simpa using h2),if_neg h2]
     exact Ty race j ys (i + 1) _
  ·rw [if_pos (by simpa using hr),if_neg hr]
   exact Ty race j ys (i + 1) _
theorem CZ (j : List An → Option (List An)) : ∀ (p : List (ByteArray × An)) (x : List An),x.length + p.length ≤ 1000000 → Jo j p x = j (x ++ p.map (·.2))
 | [],x,_=>by simp [Jo]
 | y :: p,x,h=>by
  simp only [List.length_cons] at h
  rw [Jo,Ij (by unfold Ti; exact decide_eq_true (by omega))]
  simp only [Option.bind_some]
  rw [CZ j p (x ++ [y.2]) (by simp; omega)]
  simp
theorem JN {κ ν : Type} [DecidableEq κ] (k : κ) (v : ν) : ∀ m : List (κ × ν),(m.map (·.1)).Nodup → ((Fz m k v).map (·.1)).Nodup ∧ ∀ x,x ∈ (Fz m k v).map (·.1) ↔ x = k ∨ x ∈ m.map (·.1)
 | [],_=>⟨by simp [Fz],fun x=>by simp [Fz]⟩
 | (q,u) :: m,h=>by
  simp only [List.map_cons,List.nodup_cons] at h
  obtain ⟨i1,i2⟩:=JN k v m h.2
  by_cases e : k = q
  ·subst e
   simp only [Fz,if_true,List.map_cons,List.nodup_cons]
   exact ⟨h,fun x=>by simp⟩
  ·simp only [Fz,e,if_false,List.map_cons,List.nodup_cons]
   refine ⟨⟨fun hm=>((i2 q).1 hm).elim (fun h1=>e h1.symm) h.1,i1⟩,fun x=>?_⟩
   rw [List.mem_cons,i2 x,List.mem_cons]
   constructor
   ·rintro (h1 | h1 | h1)
    ·exact .inr (.inl h1)
    ·exact .inl h1
    ·exact .inr (.inr h1)
   ·rintro (h1 | h1 | h1)
    ·exact .inr (.inl h1)
    ·exact .inl h1
    ·exact .inr (.inr h1)
theorem DA {κ ν : Type} [DecidableEq κ] (k : κ) : ∀ m : List (κ × ν),(Wj m k).Sublist m
 | []=>List.Sublist.refl _
 | (q,u) :: m=>by
  by_cases e : k = q
  ·simp only [Wj,e,if_true]; exact List.sublist_cons_self _ _
  ·simp only [Wj,e,if_false]; exact (DA k m).cons_cons _
theorem HB {κ ν : Type} [DecidableEq κ] (k : κ) (v : ν) : ∀ (m : List (κ × ν)) (p : κ × ν),p ∈ Fz m k v → p = (k,v) ∨ p ∈ m
 | [],p,h=>by simp [Fz] at h; exact .inl h
 | (q,u) :: m,p,h=>by
  by_cases e : k = q
  ·simp only [Fz,e,if_true,List.mem_cons] at h
   rcases h with h | h
   ·exact .inl (by rw [h,e])
   ·exact .inr (List.mem_cons_of_mem _ h)
  ·simp only [Fz,e,if_false,List.mem_cons] at h
   rcases h with h | h
   ·exact .inr (by rw [h]; exact List.mem_cons_self)
   ·exact (HB k v m p h).imp id (List.mem_cons_of_mem _)
structure JO (race : ByteArray) (l : List An) (m : List (ByteArray × An)) : Prop where
 nd : (m.map (·.1)).Nodup
 is : ∀ p ∈ m,p.1 = p.2.Who ∧ p.2.Race = race ∧ p.2.Kind = 1 ∧ p.2 ∈ l
theorem JP (race : ByteArray) (l : List An) : ∀ (ys : List An) (m : List (ByteArray × An)),(∀ y ∈ ys,y ∈ l) → JO race l m → JO race l (ys.foldl (MJ race) m)
 | [],m,_,h=>h
 | y :: ys,m,hy,h=>by
  rw [List.foldl_cons]
  refine JP race l ys _ (fun z hz=>hy z (List.mem_cons_of_mem _ hz)) ?_
  unfold MJ
  split
  ·rename_i hr
   split
   ·rename_i h1
    obtain ⟨a,_⟩:=JN y.Who y m h.nd
    refine ⟨a,fun p hp=>?_⟩
    rcases HB _ _ m p hp with rfl | hp
    ·exact ⟨rfl,hr,h1,hy y List.mem_cons_self⟩
    ·exact h.is p hp
   ·split
    ·exact ⟨h.nd.sublist ((DA y.Who m).map _),fun p hp=>h.is p ((DA y.Who m).subset hp)⟩
    ·exact h
  ·exact h
theorem JQ (race : ByteArray) (l : List An) : JO race l (DO race l):=JP race l l [] (fun _ h=>h) ⟨by simp,fun _ h=>by cases h⟩
theorem HC {race : ByteArray} {l : List An} {m : List (ByteArray × An)} (h : JO race l m) : (m.map (·.2)).map (·.Who) = m.map (·.1):=by
 rw [List.map_map]
 exact List.map_congr_left fun p hp=>(h.is p hp).1.symm
theorem IG (p : Ln) (l : List An) (race : ByteArray) (hl : (DO race l).length ≤ 12) : Ob p l race = some (BQ race l):=by
 have ho:=JQ race l
 unfold Ob
 simp only [Sb]
 rw [Ty]
 refine allP_is fun q hq=>?_
 have hql : q.length = (DO race l).length:=hq.length_eq
 rw [CZ _ q [] (by simp; omega),List.nil_append,MI _ (by rw [List.length_map]; omega)]
 simp only [Option.bind_some]
 have hnd : (((DO race l).map (·.2)).map (·.Who)).Nodup:=by rw [HC ho]; exact ho.nd
 have hp : (q.map (·.2)).Perm ((DO race l).map (·.2)):=hq.map _
 congr 1
 exact MH ltW_irr AV _ _ (GB ((hp.map (·.Who)).nodup_iff.2 hnd)) (AU AV _ (GB hnd)) fun x=>by rw [hp.mem_iff]; exact (Yb _ _ _).symm
theorem MK {race : ByteArray} {l : List An} {d : An} : d ∈ BQ race l ↔ d ∈ (DO race l).map (·.2):=Yb _ _ _
theorem HD (race : ByteArray) (l : List An) : (BQ race l).length = (DO race l).length:=by unfold BQ; rw [We,List.length_map]
theorem entL_up (race : ByteArray) (l : List An) : (BQ race l).Pairwise fun a b=>ltW a b = true:=by
 have ho:=JQ race l
 exact AU AV _ (GB (by rw [HC ho]; exact ho.nd))
theorem entL_ok {race : ByteArray} {l : List An} {d : An} (h : d ∈ BQ race l) : d.Race = race ∧ d.Kind = 1 ∧ d ∈ l:=by
 obtain ⟨p,hp,rfl⟩:=List.mem_map.1 (MK.1 h)
 exact ((JQ race l).is p hp).2
end Go.Proofs.YtdndpbbimcilpaaGreatDoor
namespace Go.Proofs.YtdndpbbimcilpaaGreatDoor
open Go
end Go.Proofs.YtdndpbbimcilpaaGreatDoor
namespace Go.Proofs.YtdndpbbimcilpaaGreatDoor
open Go
structure TOk (t : Pi) : Prop where
 len : t.Points.length ≤ 5
 rng : ∀ n ∈ t.Points,0 ≤ n ∧ n ≤ 10
 rel : 1 ≤ t.Relay ∧ t.Relay ≤ 2
 most : 0 ≤ t.Most ∧ t.Most ≤ 2
end Go.Proofs.YtdndpbbimcilpaaGreatDoor
namespace Go.Proofs.YtdndpbbimcilpaaGreatDoor
open Go
end Go.Proofs.YtdndpbbimcilpaaGreatDoor
namespace Go.Proofs.YtdndpbbimcilpaaGreatDoor
open Go
structure JR (t : Pi) : Prop extends TOk t where
 desc : t.Points.Pairwise fun a b=>b ≤ a
section
variable {L : List Int} (hL : AB L)
include hL
theorem JS (r4 : Int × Int) (j : List Int → Int → Option (Pi × Int)) : ∀ (d m : Nat) (x1 : List Int) (a n q : Int),r4.1 ≤ q + d → d < m → 0 ≤ q → q ≤ 5 → r4.1 ≤ 5 → x1.length = q.toNat → 0 ≤ a → a + d ≤ 1000000 → 0 ≤ n → n ≤ 10 → (∀ v ∈ x1,n ≤ v ∧ v ≤ 10) → x1.Pairwise (fun a b=>b ≤ a) →
  ∃ x b,Hu r4 L j m x1 a n q = j x b ∧ a ≤ b ∧ b ≤ a + d ∧ x.length ≤ 5 ∧ (∀ v ∈ x,0 ≤ v ∧ v ≤ 10) ∧ x.Pairwise (fun a b=>b ≤ a)
 | d,0,_,_,_,_,_,h,_,_,_,_,_,_,_,_,_,_=>absurd h (by omega)
 | d,m + 1,x1,a,n,q,h1,h2,h3,h4,h4',h5,h6,h7,h8,h9,h10,h11=>by
  rw [Hu]
  by_cases hc : q < r4.1
  ·rw [if_pos (decide_eq_true hc),Ij (by unfold Ti; simp; omega)]
   obtain ⟨d,rfl⟩ : ∃ e,d = e + 1:=⟨d - 1,by omega⟩
   obtain ⟨v,b,e,g1,g2,g3⟩:=Oi hL h6 (by omega) [0,1,2,3] (by simp) (by simp)
   rw [e]; simp only [Option.bind_some]
   have hv : 0 ≤ v ∧ v ≤ 3:=by simp at g3; omega
   have hn : 0 ≤ Yc 0 (W (n - v)) ∧ Yc 0 (W (n - v)) ≤ n:=by
    rw [Px (by omega) (by omega)]; unfold Yc; split <;> omega
   rw [show W (q + 1) = q + 1 from Px (by omega) (by omega)]
   obtain ⟨x,c,r1,r2,r3,r5,r6,r7⟩:=JS r4 j d m (x1 ++ [n]) b (Yc 0 (W (n - v))) (q + 1) (by omega) (by omega) (by omega) (by omega) h4' (by simp; omega) (by omega) (by omega) hn.1 (by omega) (fun v hv=>by
    rcases List.mem_append.1 hv with hv | hv
    ·have:=h10 v hv; omega
    ·obtain rfl:=List.mem_singleton.1 hv; omega) (by
    rw [List.pairwise_append]
    exact ⟨h11,by simp,fun u hu w hw=>by obtain rfl:=List.mem_singleton.1 hw; exact (h10 u hu).1⟩)
   exact ⟨x,c,r1,by omega,by omega,r5,r6,r7⟩
  ·rw [if_neg (by simpa using hc)]
   exact ⟨x1,a,rfl,by omega,by omega,by omega,fun v hv=>by have:=h10 v hv; omega,h11⟩
theorem ML {a : Int} (h0 : 0 ≤ a) (h1 : a ≤ 100000) : Dr a 10 JR (Nq L a):=by
 unfold Nq
 obtain ⟨v1,b1,e1,p1,q1,m1⟩:=Oi hL h0 (by omega) [1,2] (by simp) (by simp)
 rw [e1]; simp only [Option.bind_some]
 obtain ⟨v2,b2,e2,p2,q2,m2⟩:=Oi hL (a:=b1) (by omega) (by omega) [0,0,1,2] (by simp) (by simp)
 rw [e2]; simp only [Option.bind_some]
 obtain ⟨v3,b3,e3,p3,q3,m3⟩:=Oi hL (a:=b2) (by omega) (by omega) [10,9,7,5] (by simp) (by simp)
 rw [e3]; simp only [Option.bind_some]
 obtain ⟨v4,b4,e4,p4,q4,m4,m5⟩:=Vj hL (a:=b3) (by omega) (by omega) 0 5 (by omega) (by omega) (by omega)
 rw [e4]; simp only [Option.bind_some,Mn]
 simp only [List.mem_cons,List.not_mem_nil,or_false] at m1 m2 m3
 obtain ⟨x,b,e,g1,g2,g3,g4,g5⟩:=JS hL (v4,b4) (fun x1 x2=>some ((Pi.mk x1 v1 v2),x2)) v4.toNat ((v4 - 0).toNat + 2) [] b4 v3 0 (by simp only; omega) (by omega) (by omega) (by omega) (by simp only; omega) rfl (by omega) (by omega) (by omega) (by omega) (fun _ h=>by cases h) List.Pairwise.nil
 exact ⟨_,b,e,by omega,by omega,⟨⟨g3,g4,by simp only; omega,by simp only; omega⟩,g5⟩⟩
end
theorem DB (t : Pi) (ht : JR t) (j : Option Int) : ∀ (ys dn : List Int),t.Points = dn ++ ys → Hw t j ys dn.length = j
 | [],dn,_=>rfl
 | y :: ys,dn,h=>by
  have ih:=DB t ht j ys (dn ++ [y]) (by rw [h]; simp)
  rw [List.length_append,List.length_singleton] at ih
  have hy:=ht.rng y (by rw [h]; simp)
  have hw : Cy y 0 10000 = true:=by unfold Cy; simp; omega
  have hdl : dn.length ≤ 5:=by have:=ht.len; rw [h] at this; simp at this; omega
  rw [Hw,hw]
  simp only [Bool.not_true,Bool.false_eq_true,if_false,Mn]
  rcases List.eq_nil_or_concat dn with rfl | ⟨d,x,rfl⟩
  ·simpa using ih
  ·simp only [List.concat_eq_append] at *
   have hlen : ((d ++ [x]).length : Int) = (d.length : Int) + 1:=by simp
   have hn : nth t.Points (d.length : Int) = x:=by
    have : t.Points = d ++ x :: (y :: ys):=by rw [h]; simp
    rw [this]; exact CA d x (y :: ys) rfl
   have hin : inB (d.length : Int) t.Points.length = true:=Kp.2 (by rw [h]; simp; omega)
   have hle : y ≤ x:=by
    have:=ht.desc
    rw [h,List.pairwise_append] at this
    exact this.2.2 x (by simp) y (by simp)
   have hpos : decide (0 < ((d ++ [x]).length : Int)) = true:=by rw [hlen]; exact decide_eq_true (by omega)
   rw [if_pos hpos,hpos,hlen,show (d.length : Int) + 1 - 1 = (d.length : Int) by omega,Px (by omega) (by omega),Ij hin,hn,decide_eq_false (by omega)]
   simpa using ih
theorem MM {t : Pi} (ht : JR t) : Mc t = some 0:=by
 have hl:=ht.len
 have hr:=ht.rel
 have hm:=ht.most
 have h1 : Cy t.Relay 1 10 = true:=by unfold Cy; simp; omega
 have h2 : Cy t.Most 0 10 = true:=by unfold Cy; simp; omega
 unfold Mc
 rw [if_neg (by simp; omega)]
 simp only [Mn,h1,h2,Bool.not_true,Bool.or_self,Bool.false_eq_true,if_false]
 exact DB t ht (some 0) t.Points [] rfl
section
variable {L : List Int} (hL : AB L)
include hL
end
section
variable {L : List Int} (hL : AB L)
include hL
end
end Go.Proofs.YtdndpbbimcilpaaGreatDoor
namespace Go.Proofs.YtdndpbbimcilpaaGreatDoor
open Go
def AD : List ByteArray:=[Te,Yo,Yp,Yq,Cx]
def Um : List ByteArray:=[Sj,CK,Cx,k_A]
def Xm : List ByteArray:=[Np,Qi,HU,Cx]
def Tz : List ByteArray:=[Pa,AJ,Cx]
structure ET (d : An) : Prop where
 site : d.Site ∈ Tz
 who : d.Who ∈ AD
 club : d.Club ∈ Um
 race : d.Race ∈ Xm
 of_ : d.Of ∈ Tz
 at_ : 0 ≤ d.At ∧ d.At ≤ 80
theorem Qm {κ R : Type} {K : κ} {f : κ → R} (Pr : R → Prop) (p : κ → Prop) (hK : p K) (hf : ∀ K',p K' → Pr (f K')) : Pr (Gd K f):=hf K hK
def Qg (j : List (ByteArray × Int) → List An → Int → Option (List An × Int)) (a : Int) (m n : Nat) (r : Option (List An × Int)) : Prop :=
 ∃ mm x b,r = j mm x b ∧ a ≤ b ∧ b ≤ a + 20 * (m : Int) ∧ x.length ≤ n ∧ ∀ d ∈ x,ET d
theorem EU : Cx ∈ AD ∧ Cx ∈ Um ∧ Cx ∈ Xm ∧ Cx ∈ Tz:=by simp [AD,Um,Xm,Tz]
section
variable {L : List Int} (hL : AB L)
include hL
theorem HE (many : Int) (hm : many ≤ 16) (j : List (ByteArray × Int) → List An → Int → Option ((List An) × Int)) : ∀ (m : Nat) (x1 : List (ByteArray × Int)) (x2 : List An) (a x4 x5 : Int),0 ≤ x5 → many - x5 < (m : Int) → 0 ≤ a → a + 20 * m ≤ 10000000 → x2.length + m ≤ 1000 → (∀ e,0 ≤ Ek x1 e 0 ∧ Ek x1 e 0 ≤ x5) →
  0 ≤ x4 → x4 ≤ 5 * x5 → (∀ d ∈ x2,ET d) → Qg j a m (x2.length + (many - x5).toNat) (Kd many L j (m + 1) x1 x2 a x4 x5)
 | m,x1,x2,a,x4,x5,h1,h2,h3,h4,h5,hx,h6,h7,hN=>by
  rw [Kd]
  by_cases hc : x5 < many
  ·rw [if_pos (decide_eq_true hc)]
   cases m with
   | zero=>omega
   | succ m =>
    obtain ⟨v1,b1,e1,g1,g2,hv1⟩:=Oi hL (a:=a) h3 (by omega) [0,1,5] (by simp) (by simp)
    have hv1' : 0 ≤ v1 ∧ v1 ≤ 5:=by simp only [List.mem_cons,List.not_mem_nil,or_false] at hv1; omega
    rw [e1]; simp only [Option.bind_some]
    obtain ⟨v2,b2,e2,g3,g4,hv2⟩:=Tp hL (a:=b1) (by omega) (by omega) [Pa,Pa,AJ] (by simp) (by simp)
    have hv2' : v2 ∈ Tz:=by simp only [List.mem_cons,List.not_mem_nil,or_false] at hv2; unfold Tz; rcases hv2 with rfl | rfl | rfl <;> simp
    rw [e2]; simp only [Option.bind_some]
    obtain ⟨v3,b3,e3,gg5,g6,_⟩:=Oi hL (a:=b2) (by omega) (by omega) [1,1,1,3,3,3,2,4] (by simp) (by simp)
    rw [e3]; simp only [Option.bind_some]
    have hx' : ∀ e,0 ≤ Ek (Fz x1 v2 (W ((Ek x1 v2 0) + 1))) e 0 ∧ Ek (Fz x1 v2 (W ((Ek x1 v2 0) + 1))) e 0 ≤ x5 + 1:=fun e=>by
     have q1:=hx v2
     have q2:=hx e
     rw [FZ,Px (by omega) (by omega)]
     split <;> omega
    refine Qm (Qg j a (m + 1) (x2.length + (many - x5).toNat)) (fun K=>∀ s1 s2 c,s1 ∈ AD → s2 ∈ Xm → a ≤ c → c ≤ a + 5 → Qg j a (m + 1) (x2.length + (many - x5).toNat) (K s1 s2 c)) ?_ ?_
    ·intro s1 s2 c hs1 hs2 hc1 hc2
     refine Qm (Qg j a (m + 1) (x2.length + (many - x5).toNat)) (fun K=>∀ u1 u2 u3 u4 u5 c,u1 ∈ Um → u4 ∈ Tz → a ≤ c → c ≤ a + 8 → Qg j a (m + 1) (x2.length + (many - x5).toNat) (K u1 u2 u3 u4 u5 c)) ?_ ?_
     ·intro u1 u2 u3 u4 u5 c hu1 hu4 hc1 hc2
      obtain ⟨f,d0,t0,y1,y2,_⟩:=JK hL (a:=c) (by omega) (by omega) 100 (by omega)
      rw [t0]; simp only [Option.bind_some]
      refine Qm (Qg j a (m + 1) (x2.length + (many - x5).toNat)) (fun K=>∀ t0 t1 t2 t3 t4 t5 t6 t7 t8 c,t0 ∈ Tz → t3 ∈ AD → t4 ∈ Um → t5 ∈ Xm → a ≤ c → c ≤ a + 17 → Qg j a (m + 1) (x2.length + (many - x5).toNat) (K t0 t1 t2 t3 t4 t5 t6 t7 t8 c)) ?_ ?_
      ·intro q0 q1 q2 q3 q4 q5 q6 q7 q8 c hq0 hq3 hq4 hq5 hc1 hc2
       have hw4 : W (x4 + v1) = x4 + v1:=Px (by omega) (by omega)
       rw [Ij (by unfold Ti; exact decide_eq_true (by omega)),Px (n:=x5 + 1) (by omega) (by omega)]
       obtain ⟨mm,x,b,r1,r2,r3,r4,r5⟩:=HE many hm j m _ (x2 ++ [An.mk q0 q1 (W (x4 + v1)) q2 q3 q4 q5 q6 q7 u4 q8]) c (W (x4 + v1)) (x5 + 1) (by omega) (by omega) (by omega) (by omega) (by simp; omega) hx' (by omega) (by omega) (fun d hd=>by
        rcases List.mem_append.1 hd with hd | hd
        ·exact hN d hd
        ·rw [List.mem_singleton] at hd
         subst hd
         exact ⟨hq0,hq3,hq4,hq5,hu4,by show 0 ≤ W (x4 + v1) ∧ W (x4 + v1) ≤ 80; omega⟩)
       exact ⟨mm,x,b,r1,by omega,by push_cast; omega,by simp at r4; omega,r5⟩
      ·intro K7 hK7
       have hno : Qg j a (m + 1) (x2.length + (many - x5).toNat) (K7 v2 (Ek (Fz x1 v2 (W ((Ek x1 v2 0) + 1))) v2 0) v3 s1 u1 s2 u2 u3 u5 d0):=hK7 _ _ _ _ _ _ _ _ _ _ hv2' hs1 hu1 hs2 (by omega) (by omega)
       cases f with
       | false=>rw [if_neg (by simp)]; exact hno
       | true =>
        rw [if_pos rfl]
        obtain ⟨n,d1,t1,y3,y4,_⟩:=next_dr hL (a:=d0) (by omega) (by omega) 4 (by omega)
        rw [t1]; simp only [Option.bind_some]
        refine Qm (Qg j a (m + 1) (x2.length + (many - x5).toNat)) (fun K=>∀ t0 t1 t2 t3 t4 t5 t6 t7 t8 c,t0 ∈ Tz → t3 ∈ AD → t4 ∈ Um → t5 ∈ Xm → a ≤ c → c ≤ a + 17 → Qg j a (m + 1) (x2.length + (many - x5).toNat) (K t0 t1 t2 t3 t4 t5 t6 t7 t8 c)) ?_ ?_
        ·exact hK7
        intro K8 hK8
        refine Qm (Qg j a (m + 1) (x2.length + (many - x5).toNat)) (fun K=>∀ t0 t1 t2 t3 t4 t5 t6 t7 t8 c,t0 ∈ Tz → t3 ∈ AD → t4 ∈ Um → t5 ∈ Xm → a ≤ c → c ≤ a + 17 → Qg j a (m + 1) (x2.length + (many - x5).toNat) (K t0 t1 t2 t3 t4 t5 t6 t7 t8 c)) ?_ ?_
        ·exact hK8
        intro K9 hK9
        split
        ·skip
         obtain ⟨z1,m1,oz1,pz1,qz1,hz1⟩:=Tp hL (a:=d1) (by omega) (by omega) [Cx,Pa] (by simp) (by simp)
         rw [oz1]; simp only [Option.bind_some]
         obtain ⟨z2,m2,oz2,pz2,qz2,_⟩:=CX hL (a:=m1) (by omega) (by omega) 1 9 (by omega) (by omega) (by omega)
         rw [oz2]; simp only [Option.bind_some]
         exact hK9 _ _ _ _ _ _ _ _ _ _ (by simp only [List.mem_cons,List.not_mem_nil,or_false] at hz1; unfold Tz; rcases hz1 with rfl | rfl <;> simp) hs1 hu1 hs2 (by omega) (by omega)
        ·refine Qm (Qg j a (m + 1) (x2.length + (many - x5).toNat)) (fun K=>∀ t0 t1 t2 t3 t4 t5 t6 c,t1 ∈ AD → t2 ∈ Um → t3 ∈ Xm → a ≤ c → c ≤ a + 17 → Qg j a (m + 1) (x2.length + (many - x5).toNat) (K t0 t1 t2 t3 t4 t5 t6 c)) ?_ ?_
         ·intro q0 q1 q2 q3 q4 q5 q6 c hq1 hq2 hq3 hc1 hc2; exact hK9 _ _ _ _ _ _ _ _ _ _ hv2' hq1 hq2 hq3 (by omega) (by omega)
         intro K10 hK10
         split
         ·skip
          obtain ⟨z1,m1,oz1,pz1,qz1,_⟩:=CX hL (a:=d1) (by omega) (by omega) 1 4 (by omega) (by omega) (by omega)
          rw [oz1]; simp only [Option.bind_some]
          exact hK10 _ _ _ _ _ _ _ _ hs1 hu1 hs2 (by omega) (by omega)
         ·refine Qm (Qg j a (m + 1) (x2.length + (many - x5).toNat)) (fun K=>∀ t0 t1 t2 t3 t4 t5 c,t0 ∈ AD → t1 ∈ Um → t2 ∈ Xm → a ≤ c → c ≤ a + 17 → Qg j a (m + 1) (x2.length + (many - x5).toNat) (K t0 t1 t2 t3 t4 t5 c)) ?_ ?_
          ·intro q0 q1 q2 q3 q4 q5 c hq0 hq1 hq2 hc1 hc2; exact hK10 _ _ _ _ _ _ _ _ hq0 hq1 hq2 (by omega) (by omega)
          intro K11 hK11
          split
          ·skip
           obtain ⟨z1,m1,oz1,pz1,qz1,hz1⟩:=Tp hL (a:=d1) (by omega) (by omega) [Cx,Te] (by simp) (by simp)
           rw [oz1]; simp only [Option.bind_some]
           obtain ⟨z2,m2,oz2,pz2,qz2,hz2⟩:=Tp hL (a:=m1) (by omega) (by omega) [k_A,Sj] (by simp) (by simp)
           rw [oz2]; simp only [Option.bind_some]
           obtain ⟨z3,m3,oz3,pz3,qz3,hz3⟩:=Tp hL (a:=m2) (by omega) (by omega) [Cx,Np] (by simp) (by simp)
           rw [oz3]; simp only [Option.bind_some]
           simp only [List.mem_cons,List.not_mem_nil,or_false] at hz1 hz2 hz3
           exact hK11 _ _ _ _ _ _ _ (by unfold AD; rcases hz1 with rfl | rfl <;> simp) (by unfold Um; rcases hz2 with rfl | rfl <;> simp) (by unfold Xm; rcases hz3 with rfl | rfl <;> simp) (by omega) (by omega)
          ·skip
           obtain ⟨z1,m1,oz1,pz1,qz1,_⟩:=CX hL (a:=d1) (by omega) (by omega) 0 360000 (by omega) (by omega) (by omega)
           rw [oz1]; simp only [Option.bind_some]
           obtain ⟨z2,m2,oz2,pz2,qz2,_⟩:=CX hL (a:=m1) (by omega) (by omega) 0 8 (by omega) (by omega) (by omega)
           rw [oz2]; simp only [Option.bind_some]
           obtain ⟨z3,m3,oz3,pz3,qz3,_⟩:=CX hL (a:=m2) (by omega) (by omega) 0 5 (by omega) (by omega) (by omega)
           rw [oz3]; simp only [Option.bind_some]
           exact hK11 _ _ _ _ _ _ _ hs1 hu1 hs2 (by omega) (by omega)
     ·intro K3 hK3
      refine Qm (Qg j a (m + 1) (x2.length + (many - x5).toNat)) (fun K=>∀ t0 t1 t2 t3 t4 c,t0 ∈ Um → t3 ∈ Tz → a ≤ c → c ≤ a + 8 → Qg j a (m + 1) (x2.length + (many - x5).toNat) (K t0 t1 t2 t3 t4 c)) ?_ ?_
      ·exact hK3
      intro K4 hK4
      split
      ·skip
       obtain ⟨z1,m1,oz1,pz1,qz1,hz1⟩:=Tp hL (a:=c) (by omega) (by omega) [Sj,CK,Cx] (by simp) (by simp)
       rw [oz1]; simp only [Option.bind_some]
       obtain ⟨z2,m2,oz2,pz2,qz2,_⟩:=Oi hL (a:=m1) (by omega) (by omega) [0,5900,6000,7000] (by simp) (by simp)
       rw [oz2]; simp only [Option.bind_some]
       simp only [List.mem_cons,List.not_mem_nil,or_false] at hz1
       exact hK4 _ _ _ _ _ _ (by unfold Um; rcases hz1 with rfl | rfl | rfl <;> simp) EU.2.2.2 (by omega) (by omega)
      ·refine Qm (Qg j a (m + 1) (x2.length + (many - x5).toNat)) (fun K=>∀ t0 t1 t2 t3 c,t2 ∈ Tz → a ≤ c → c ≤ a + 8 → Qg j a (m + 1) (x2.length + (many - x5).toNat) (K t0 t1 t2 t3 c)) ?_ ?_
       ·intro q0 q1 q2 q3 c hq2 hc1 hc2; exact hK4 _ _ _ _ _ _ EU.2.1 hq2 (by omega) (by omega)
       intro K5 hK5
       split
       ·skip
        obtain ⟨z1,m1,oz1,pz1,qz1,_⟩:=Oi hL (a:=c) (by omega) (by omega) [0,5900,5900,6000,6100] (by simp) (by simp)
        rw [oz1]; simp only [Option.bind_some]
        obtain ⟨z2,m2,oz2,pz2,qz2,_⟩:=Oi hL (a:=m1) (by omega) (by omega) [0,0,0,0,3] (by simp) (by simp)
        rw [oz2]; simp only [Option.bind_some]
        exact hK5 _ _ _ _ _ EU.2.2.2 (by omega) (by omega)
       ·refine Qm (Qg j a (m + 1) (x2.length + (many - x5).toNat)) (fun K=>∀ t0 t1 c,t0 ∈ Tz → a ≤ c → c ≤ a + 8 → Qg j a (m + 1) (x2.length + (many - x5).toNat) (K t0 t1 c)) ?_ ?_
        ·intro q0 q1 c hq0 hc1 hc2; exact hK5 _ _ _ _ _ hq0 (by omega) (by omega)
        intro K6 hK6
        split
        ·skip
         obtain ⟨z1,m1,oz1,pz1,qz1,hz1⟩:=Tp hL (a:=c) (by omega) (by omega) [Pa,Pa,AJ] (by simp) (by simp)
         rw [oz1]; simp only [Option.bind_some]
         have hb : Yc 1 (Ek (Fz x1 v2 (W ((Ek x1 v2 0) + 1))) Pa 0) ≤ 1000:=by
          have hz:=(hx' Pa).2
          have hmx : ∀ z : Int,z ≤ x5 + 1 → Yc 1 z ≤ 1000:=fun z hz=>by
           unfold Yc
           by_cases hq : z > 1
           ·rw [if_pos hq]; omega
           ·rw [if_neg hq]; omega
          exact hmx _ hz
         obtain ⟨z2,m2,oz2,pz2,qz2,_⟩:=Vj hL (a:=m1) (by omega) (by omega) 1 (Yc 1 (Ek (Fz x1 v2 (W ((Ek x1 v2 0) + 1))) Pa 0)) (by omega) (by omega) (by omega)
         rw [oz2]; simp only [Option.bind_some]
         simp only [List.mem_cons,List.not_mem_nil,or_false] at hz1
         exact hK6 _ _ _ (by unfold Tz; rcases hz1 with rfl | rfl | rfl <;> simp) (by omega) (by omega)
        ·exact hK6 _ _ _ EU.2.2.2 (by omega) (by omega)
    ·intro K hK
     split
     ·obtain ⟨w1,c1,t1,q1,q2,hw1⟩:=Tp hL (a:=b3) (by omega) (by omega) [Te,Yo,Yp,Yq] (by simp) (by simp)
      rw [t1]; simp only [Option.bind_some]
      obtain ⟨w2,c2,t2,q3,q4,hw2⟩:=Tp hL (a:=c1) (by omega) (by omega) [Np,Np,Qi,HU] (by simp) (by simp)
      rw [t2]; simp only [Option.bind_some]
      simp only [List.mem_cons,List.not_mem_nil,or_false] at hw1 hw2
      exact hK _ _ _ (by unfold AD; rcases hw1 with rfl | rfl | rfl | rfl <;> simp) (by unfold Xm; rcases hw2 with rfl | rfl | rfl | rfl <;> simp) (by omega) (by omega)
     ·exact hK _ _ _ EU.1 EU.2.2.1 (by omega) (by omega)
  ·rw [if_neg (by simpa using hc)]
   exact ⟨x1,x2,a,rfl,by omega,by omega,by omega,hN⟩
theorem KV (many : Int) (h0 : 0 ≤ many) (hm : many ≤ 16) {a : Int} (ha : 0 ≤ a) (ha' : a ≤ 5000000) : ∃ l b,Ro L a many = some (l,b) ∧ a ≤ b ∧ b ≤ a + 400 ∧ (l.length : Int) ≤ many ∧ ∀ d ∈ l,ET d:=by
 obtain ⟨k,rfl⟩:=Int.eq_ofNat_of_zero_le h0
 unfold Ro
 simp only [Sb]
 obtain ⟨mm,x,b,e,g1,g2,g3,g4⟩:=HE hL (k : Int) (by omega) (fun (x1 : List (ByteArray × Int)) (x2 : List An) (x3 : Int)=>Option.bind (Ga x2) (fun r23=>some (r23,x3))) (k + 1) [] [] a 0 0 (by omega) (by omega) ha (by omega) (by simp; omega) (by simp [Ek,Zl,Kl]) (by omega) (by omega) (fun _ h=>by cases h)
 simp only [List.length_nil,Nat.zero_add] at g3
 rw [show (((k : Int) - 0).toNat + 2) = k + 1 + 1 by omega,e]
 dsimp only
 rw [IB x (by omega)]
 exact ⟨_,_,rfl,g1,by push_cast at g2; omega,by rw [We]; omega,fun d hd=>g4 d ((Yb _ _ _).1 hd)⟩
theorem HF (many : Int) (h0 : 0 ≤ many) (hm : many ≤ 16) : ∀ (m : Nat) (a x : Int),0 ≤ x ∧ x ≤ 5 → 5 - x < (m : Int) → 0 ≤ a → a + 400 * m ≤ 5000000 →
  ∃ l b,Hv L many (fun x1=>some (([] : List An),x1)) m a x = some (l,b) ∧ a ≤ b ∧ b ≤ a + 400 * m ∧ (l.length : Int) ≤ many ∧ DsG l ∧ ∀ d ∈ l,ET d
 | 0,a,x,h1,h2,_,_=>by omega
 | m + 1,a,x,h1,h2,h3,h4=>by
  rw [Hv]
  by_cases hc : x < 5
  ·rw [if_pos (decide_eq_true hc)]
   obtain ⟨l,b,e,g1,g2,g3,g4⟩:=KV hL many h0 hm (a:=a) h3 (by omega)
   rw [e]; simp only [Option.bind_some]
   obtain ⟨f,_,f2,f3⟩:=HZ l
   rw [f2]; simp only [Option.bind_some]
   by_cases hf : f = 0
   ·rw [if_pos (decide_eq_true hf)]
    exact ⟨l,b,rfl,g1,by push_cast; omega,g3,f3 hf,g4⟩
   ·rw [if_neg (by simpa using hf),Px (by omega) (by omega)]
    obtain ⟨l2,b2,e2,q1,q2,q3,q4⟩:=HF many h0 hm m b (x + 1) (by omega) (by omega) (by omega) (by omega)
    exact ⟨l2,b2,e2,by omega,by push_cast; omega,q3,q4⟩
  ·rw [if_neg (by simpa using hc)]
   exact ⟨[],a,rfl,by omega,by push_cast; omega,by simp; omega,⟨by simp,by simp,fun d x y r h=>by simp at h,by simp⟩,fun _ h=>by cases h⟩
theorem KW (many : Int) (h0 : 0 ≤ many) (hm : many ≤ 16) {a : Int} (ha : 0 ≤ a) (ha' : a ≤ 1000000) : ∃ l b,Nr L a many = some (l,b) ∧ a ≤ b ∧ b ≤ a + 2800 ∧ (l.length : Int) ≤ many ∧ DsG l ∧ ∀ d ∈ l,ET d:=by
 unfold Nr
 rw [Sb]
 obtain ⟨l,b,e,g1,g2,g3,g4⟩:=HF hL many h0 hm 7 a 0 (by omega) (by omega) ha (by omega)
 exact ⟨l,b,e,g1,by omega,g3,g4⟩
end
end Go.Proofs.YtdndpbbimcilpaaGreatDoor
namespace Go.Proofs.YtdndpbbimcilpaaGreatDoor
open Go
theorem JT (P : List Dg) (v : Dg) (Q : List Dg) : nth (P ++ v :: Q) (P.length : Int) = v:=by unfold nth; simp
theorem JU (P : List Dg) (v u : Dg) (Q : List Dg) : (P ++ v :: Q).set P.length u = P ++ u :: Q:=by simp
theorem MN (j : List Dg → Option (List Dg)) : ∀ (k m : Nat) (A M B : List Dg),M.length ≤ k → M.length < m → A.length + M.length + B.length ≤ 1000000 →
  Hc j m (A ++ (M ++ B)) (A.length : Int) ((A.length : Int) + (M.length : Int) - 1) = j (A ++ (M.reverse ++ B))
 | k,0,A,M,B,_,h,_=>by omega
 | k,m + 1,A,M,B,hk,hm,hl=>by
  rw [Hc]
  match M,hk,hm,hl with
  | [],_,_,_=>rw [if_neg (by simp; omega)]; rfl
  | [z],_,_,_=>rw [if_neg (by simp)]; rfl
  | a :: z :: M1,hk,hm,hl =>
   obtain ⟨M2,b,hM⟩ : ∃ M2 b,z :: M1 = M2 ++ [b]:=by
    rcases List.eq_nil_or_concat (z :: M1) with h | ⟨M2,b,h⟩
    ·cases h
    ·exact ⟨M2,b,by rw [h]; simp⟩
   rw [hM] at hk hm hl ⊢
   simp only [List.length_cons,List.length_append,List.length_nil] at hk hm hl ⊢
   have hlen : (A ++ (a :: (M2 ++ [b]) ++ B)).length = A.length + M2.length + 2 + B.length:=by simp; omega
   have e3 : (A.length : Int) + ((M2.length + (0 + 1) + 1 : Nat) : Int) - 1 = ((A.length + M2.length + 1 : Nat) : Int):=by omega
   rw [e3,if_pos (decide_eq_true (by omega))]
   have n2 : nth (A ++ (a :: (M2 ++ [b]) ++ B)) (A.length : Int) = a:=by rw [List.cons_append]; exact JT _ _ _
   have h1 : A ++ (a :: (M2 ++ [b]) ++ B) = (A ++ a :: M2) ++ b :: B:=by simp
   have h2 : (A ++ a :: M2).length = A.length + M2.length + 1:=by simp; omega
   have n3 : nth (A ++ (a :: (M2 ++ [b]) ++ B)) ((A.length + M2.length + 1 : Nat) : Int) = b:=by
    rw [h1,← h2]; exact JT _ _ _
   have hs : ((A ++ (a :: (M2 ++ [b]) ++ B)).set ((A.length : Int)).toNat b).set (((A.length + M2.length + 1 : Nat) : Int)).toNat a = (A ++ [b]) ++ (M2 ++ (a :: B)):=by
    rw [Int.toNat_natCast,Int.toNat_natCast]
    have q1 : (A ++ (a :: (M2 ++ [b]) ++ B)).set A.length b = (A ++ b :: M2) ++ b :: B:=by
     rw [List.cons_append,JU]; simp
    have q2 : (A ++ b :: M2).length = A.length + M2.length + 1:=by simp; omega
    rw [q1,← q2,JU]
    simp
   rw [Ij (Kp.2 (by omega)),Ij (Kp.2 (by omega)),Ij (Kp.2 (by omega)),Ij (Kp.2 (by rw [List.length_set]; omega)),n2,n3,hs,Px (by omega) (by omega),Px (by omega) (by omega)]
   have ih:=MN j (k - 2) m (A ++ [b]) M2 (a :: B) (by omega) (by omega) (by simp; omega)
   have e1 : (((A ++ [b]).length : Nat) : Int) = (A.length : Int) + 1:=by simp
   rw [e1] at ih
   have e2 : (A.length : Int) + 1 + (M2.length : Int) - 1 = ((A.length + M2.length + 1 : Nat) : Int) - 1:=by omega
   rw [e2] at ih
   rw [ih]
   simp
theorem HG (l : List Dg) (hl : l.length ≤ 1000000) : Mj l = some l.reverse:=by
 unfold Mj
 rw [Mn,Px (by omega) (by omega)]
 have h:=MN (fun x=>some x) l.length (((l.length : Int) - 1 - 0).toNat + 2) [] l [] (Nat.le_refl _) (by omega) (by simp; omega)
 simpa using h
theorem KX {s : ByteArray} (h : s ∈ [Np,Qi,Sz]) : Gn s = some true:=by
 have key : ∀ s ∈ [Np,Qi,Sz],Gn s = some true:=by decide +kernel
 exact key s h
section
variable {L : List Int} (hL : AB L)
include hL
theorem MO {a : Int} (h0 : 0 ≤ a) (h1 : a ≤ 100000000) (key : ByteArray) (hk : key ∈ [Np,Qi,Sz]) : Dr a 7 (fun r=>r.Key = key ∧ Kx r = some 0) (Pb L a key):=by
 unfold Pb
 obtain ⟨v1,b1,e1,g1,g2,q1⟩:=Oi hL h0 (by omega) [50,100,200] (by simp) (by simp)
 rw [e1]; simp only [Option.bind_some]
 obtain ⟨v2,b2,e2,g3,g4,q2⟩:=Oi hL (a:=b1) (by omega) (by omega) [1,2,3,4] (by simp) (by simp)
 rw [e2]; simp only [Option.bind_some]
 obtain ⟨v3,b3,e3,gg5,g6,q3⟩:=Oi hL (a:=b2) (by omega) (by omega) [25,50] (by simp) (by simp)
 rw [e3]; simp only [Option.bind_some]
 obtain ⟨v4,b4,e4,g7,g8,q4⟩:=Oi hL (a:=b3) (by omega) (by omega) [1,1,1,4] (by simp) (by simp)
 rw [e4]; simp only [Option.bind_some]
 obtain ⟨v5,b5,e5,g9,g10,q5⟩:=Oi hL (a:=b4) (by omega) (by omega) [0,1,2] (by simp) (by simp)
 rw [e5]; simp only [Option.bind_some]
 obtain ⟨v6,b6,e6,g11,g12,q6⟩:=Oi hL (a:=b5) (by omega) (by omega) [0,0,5,10] (by simp) (by simp)
 rw [e6]; simp only [Option.bind_some]
 obtain ⟨v7,b7,e7,g13,g14,q7⟩:=Oi hL (a:=b6) (by omega) (by omega) [0,5,90] (by simp) (by simp)
 rw [e7]; simp only [Option.bind_some]
 refine ⟨_,_,rfl,by omega,by omega,rfl,?_⟩
 simp only [List.mem_cons,List.not_mem_nil,or_false] at q1 q2 q3 q4 q5 q6 q7
 have w : W (v6 + v7) = v6 + v7:=Px (by omega) (by omega)
 unfold Kx
 simp only [KX hk,Option.bind_some,Bool.not_true,Bool.false_eq_true,if_false,Mn,w]
 have c1 : ((!(Cy v2 1 5)) || (!(Cy v5 0 2))) = false:=by
  unfold Cy; simp; omega
 have c2 : (((((((!decide (v3 = 25)) && (!decide (v3 = 50))) || (!(Cy v4 1 4))) || (!(Cy v1 25 1500))) || (decide (v6 < 0))) || (decide (v6 + v7 < v6))) || (decide (120 < v6 + v7))) = false:=by
  unfold Cy; simp; omega
 have c3 : (!decide (v3 = 0)) = true:=by simp; omega
 have c4 : (!decide (Int.tmod v1 v3 = 0)) = false:=by rcases q1 with rfl | rfl | rfl <;> rcases q3 with rfl | rfl <;> decide +kernel
 have c5 : decide (v2 = 5) = false:=by simp; omega
 simp only [c1,c2,Ij c3,c4,c5,Bool.false_eq_true,if_false,Bool.false_and]
theorem DC : ∀ (ys : List ByteArray) (i : Nat) (x1 : List Dg) (a : Int),0 ≤ a → a + 8 * ys.length ≤ 10000000 → x1.length + ys.length ≤ 1000 → (∀ y ∈ ys,y ∈ [Np,Qi,Sz]) → ys.Nodup → (∀ x ∈ x1,(Kx x = some 0 ∧ x.Key ∈ [Np,Qi,Sz]) ∧ x.Key ∉ ys) → (x1.map (·.Key)).Nodup →
  ∃ x b,Ih L (fun x a=>some (x,a)) ys i x1 a = some (x,b) ∧ a ≤ b ∧ b ≤ a + 8 * ys.length ∧ x.length ≤ x1.length + ys.length ∧ (∀ z ∈ x,Kx z = some 0 ∧ z.Key ∈ [Np,Qi,Sz]) ∧ (x.map (·.Key)).Nodup
 | [],i,x1,a,_,_,_,_,_,h5,h6=>⟨x1,a,rfl,Int.le_refl _,by simp,by simp,fun z hz=>(h5 z hz).1,h6⟩
 | y :: ys,i,x1,a,h0,h1,h2,h3,h4,h5,h6=>by
  rw [Ih]
  rw [List.nodup_cons] at h4
  simp only [List.length_cons] at h1 h2 ⊢
  obtain ⟨f,b,e,g1,g2,_⟩:=JK hL h0 (by omega) 6 (by omega)
  rw [e]; simp only [Option.bind_some,Mn]
  cases f with
  | true =>
   rw [if_neg (by simp)]
   obtain ⟨x,c,e',g3,g4,gg5,g6,g7⟩:=DC ys (i + 1) x1 b (by omega) (by omega) (by omega) (fun z hz=>h3 z (List.mem_cons_of_mem _ hz)) h4.2 (fun x hx=>⟨(h5 x hx).1,fun hz=>(h5 x hx).2 (List.mem_cons_of_mem _ hz)⟩) h6
   exact ⟨x,c,e',by omega,by omega,by omega,g6,g7⟩
  | false =>
   rw [if_pos (by simp)]
   obtain ⟨s,b2,e2,g3,g4,q1,q2⟩:=MO hL (a:=b) (by omega) (by omega) y (h3 y List.mem_cons_self)
   rw [e2]; simp only [Option.bind_some]
   rw [Ij (by unfold Ti; simp; omega)]
   obtain ⟨x,c,e',g7,g8,g9,g10,g11⟩:=DC ys (i + 1) (x1 ++ [s]) b2 (by omega) (by omega) (by simp; omega) (fun z hz=>h3 z (List.mem_cons_of_mem _ hz)) h4.2
    (fun x hx=>by
     rcases List.mem_append.1 hx with h | h
     ·exact ⟨(h5 x h).1,fun hz=>(h5 x h).2 (List.mem_cons_of_mem _ hz)⟩
     ·rw [List.mem_singleton] at h; subst h; exact ⟨⟨q2,by rw [q1]; exact h3 y List.mem_cons_self⟩,by rw [q1]; exact h4.1⟩)
    (by
     rw [List.map_append,List.nodup_append]
     refine ⟨h6,by simp,fun u hu v hv=>?_⟩
     simp only [List.map_cons,List.map_nil,List.mem_singleton] at hv
     obtain ⟨x,hx,rfl⟩:=List.mem_map.1 hu
     rw [hv,q1]
     rintro e
     exact (h5 x hx).2 (by rw [e]; exact List.mem_cons_self))
   simp only [List.length_append,List.length_singleton] at g9
   exact ⟨x,c,e',by omega,by omega,by omega,g10,g11⟩
end
structure BF (p : Ln) : Prop where
 few : p.Races.length ≤ 3
 races : ∀ r ∈ p.Races,Kx r = some 0 ∧ r.Key ∈ [Np,Qi,Sz]
 keys : (p.Races.map (·.Key)).Nodup
 table : JR p.Table
 final : Nl p.Final = 0
theorem MP {L : List Int} (hL : AB L) {a : Int} (h0 : 0 ≤ a) (h1 : a ≤ 50000) : Dr a 37 BF (Ol L a):=by
 unfold Ol Pz
 simp only [Sb]
 obtain ⟨x,b1,e1,p1,q1,x1,x2,x3⟩:=DC hL [Np,Qi,Sz] 0 [] a h0 (by simp; omega) (by simp) (fun _ h=>h) (by decide +kernel) (fun _ h=>by cases h) (by simp)
 simp only [List.length_cons,List.length_nil,Nat.zero_add] at q1 x1
 rw [e1]; simp only [Option.bind_some]
 obtain ⟨t,b2,e2,p2,q2,t1⟩:=ML hL (a:=b1) (by omega) (by omega)
 rw [e2]; simp only [Option.bind_some]
 obtain ⟨v3,b3,e3,p3,q3,m3,n3⟩:=Vj hL (a:=b2) (by omega) (by omega) 1 3 (by omega) (by omega) (by omega)
 rw [e3]; simp only [Option.bind_some]
 obtain ⟨v4,b4,e4,p4,q4,m4,n4⟩:=Vj hL (a:=b3) (by omega) (by omega) 1 2 (by omega) (by omega) (by omega)
 rw [e4]; simp only [Option.bind_some]
 obtain ⟨v5,b5,e5,p5,q5,m5,n5⟩:=Vj hL (a:=b4) (by omega) (by omega) 0 2 (by omega) (by omega) (by omega)
 rw [e5]; simp only [Option.bind_some]
 rw [HG x (by omega)]; simp only [Option.bind_some]
 refine ⟨_,_,rfl,by omega,by push_cast at q1; omega,?_⟩
 refine ⟨by simp only [List.length_reverse]; omega,fun r hr=>x2 r (List.mem_reverse.1 hr),by rw [List.map_reverse]; exact (List.reverse_perm _).nodup_iff.2 x3,t1,?_⟩
 unfold Nl
 rw [if_neg]
 simp only [Cy,Bool.not_and,Bool.or_eq_true,Bool.not_eq_true',decide_eq_false_iff_not]
 simp
 omega
theorem contP (y : Dg) : ∀ (l : List Dg) (i : Nat),y.Key ∉ l.map (·.Key) → Ei y (-1) l i = -1
 | [],_,_=>rfl
 | x :: l,i,h=>by
  simp only [List.map_cons,List.mem_cons,not_or] at h
  rw [Ei]
  unfold Pm
  rw [if_neg (by simp only [decide_eq_true_eq]; exact fun e=>h.1 e.symm)]
  exact contP y l (i + 1) h.2
theorem BG (p : Ln) (h : BF p) (j : Option Int) : ∀ (ys dn : List Dg),p.Races = dn ++ ys → Jg p j ys dn.length = j
 | [],_,_=>rfl
 | y :: ys,dn,he=>by
  have hy : y ∈ p.Races:=by rw [he]; simp
  have hc : cut p.Races 0 (dn.length : Int) = dn:=by rw [he]; unfold cut; simp
  have hk:=h.keys
  rw [he,List.map_append,List.map_cons,List.nodup_append] at hk
  have hn : y.Key ∉ dn.map (·.Key):=fun hm=>hk.2.2 _ hm _ List.mem_cons_self rfl
  rw [Jg,(h.races y hy).1]
  simp only [Option.bind_some,decide_true,Bool.not_true,Bool.false_eq_true,if_false]
  rw [Ij (Ss.2 (by rw [he]; simp; omega)),hc]
  have hf : Gw dn y = false:=by
   unfold Gw Ii
   rw [Sb,contP y dn 0 hn]
   rfl
  rw [hf,if_neg (by simp)]
  have:=BG p h j ys (dn ++ [y]) (by rw [he]; simp)
  rwa [List.length_append,List.length_singleton] at this
theorem AE {p : Ln} (h : BF p) : Om p = some 0:=by
 have:=h.few
 unfold Om
 rw [if_neg (by simp; omega),Sb]
 have hl:=BG p h (Option.bind (Mc p.Table) fun r2=>if !decide (r2 = 0) then some r2 else some (Nl p.Final)) p.Races [] rfl
 rw [List.length_nil] at hl
 rw [hl,MM h.table]
 simp only [Option.bind_some,decide_true,Bool.not_true,Bool.false_eq_true,if_false,h.final]
end Go.Proofs.YtdndpbbimcilpaaGreatDoor
namespace Go.Proofs.YtdndpbbimcilpaaGreatDoor
open Go
end Go.Proofs.YtdndpbbimcilpaaGreatDoor
namespace Go.Proofs.YtdndpbbimcilpaaGreatDoor
open Go
def swS (race : ByteArray) (m : List (ByteArray × An)) (y : An) : List (ByteArray × An):=if decide (y.Race = race) && decide (y.Kind = 3) then Fz m y.Who y else m
def swM (race : ByteArray) (l : List An) : List (ByteArray × An):=l.foldl (swS race) []
structure FG (F : List An) : Prop where
 ok : ∀ d ∈ F,DG d ∧ d.Who ∈ AD ∧ d.Club ∈ Um
 len : F.length ≤ 40
theorem HH {α : Type} [DecidableEq α] : ∀ (l l' : List α),l.Nodup → (∀ x ∈ l,x ∈ l') → l.length ≤ l'.length
 | [],_,_,_=>Nat.zero_le _
 | x :: l,l',h,hm=>by
  rw [List.nodup_cons] at h
  have hx:=hm x List.mem_cons_self
  have:=HH l (l'.erase x) h.2 fun y hy=>(List.mem_erase_of_ne (fun e=>h.1 (by rw [← e]; exact hy))).2 (hm y (List.mem_cons_of_mem _ hy))
  rw [List.length_erase_of_mem hx] at this
  have:=List.length_pos_of_mem hx
  simp only [List.length_cons]
  omega
theorem MQ {F : List An} (h : FG F) {d : An} (hd : d ∈ F) (hk : d.Kind ≠ 4) : d.Who ∈ [Te,Yo,Yp,Yq] ∧ Gn d.Who = some true ∧ Gn d.Race = some true:=by
 obtain ⟨g,n,_⟩:=h.ok d hd
 obtain ⟨h1,h2⟩:=g.who hk
 have e0 : Gn Cx = some false:=by decide +kernel
 refine ⟨?_,h1,h2⟩
 unfold AD at n
 simp only [List.mem_cons,List.not_mem_nil,or_false] at n ⊢
 rcases n with n | n | n | n | n
 ·exact .inl n
 ·exact .inr (.inl n)
 ·exact .inr (.inr (.inl n))
 ·exact .inr (.inr (.inr n))
 ·rw [n,e0] at h1; cases h1
theorem GC {F : List An} (h : FG F) (race : ByteArray) : (DO race F).length ≤ 4:=by
 have ho:=JQ race F
 have:=HH ((DO race F).map (·.1)) [Te,Yo,Yp,Yq] ho.nd fun x hx=>by
  obtain ⟨p,hp,rfl⟩:=List.mem_map.1 hx
  obtain ⟨e1,_,e3,e4⟩:=ho.is p hp
  rw [e1]
  exact (MQ h e4 (by omega)).1
 rw [List.length_map] at this
 exact this
theorem MR {F : List An} (h : FG F) (p : Ln) (race : ByteArray) : Ob p F race = some (BQ race F):=IG p F race (by have:=GC h race; omega)
def hasS (race : ByteArray) (F : List An) (d : An) : Bool:=(Zl (swM race F) d.Who).isSome
def swum (race : ByteArray) (F : List An) : List An:=(BQ race F).filter (hasS race F)
end Go.Proofs.YtdndpbbimcilpaaGreatDoor
namespace Go.Proofs.YtdndpbbimcilpaaGreatDoor
open Go
end Go.Proofs.YtdndpbbimcilpaaGreatDoor
namespace Go.Proofs.YtdndpbbimcilpaaGreatDoor
open Go
structure LG (l : List An) : Prop where
 ok : DsG l
 names : ∀ d ∈ l,d.Who ∈ AD ∧ d.Club ∈ Um
 len : l.length ≤ 40
theorem LG.facts {l : List An} (h : LG l) (at_ : Int) : FG (Sc l at_) :=
 ⟨fun d hd=>⟨h.ok.each d ((Zj l at_).subset hd),h.names d ((Zj l at_).subset hd)⟩,Nat.le_trans (Zj l at_).length_le h.len⟩
theorem MS (j : Option (Option Ie × Int)) : ∀ (ats : List Int) (i : Nat),(∀ a ∈ ats,Hg a = true) → Lu j ats i = j
 | [],_,_=>rfl
 | a :: ats,i,h=>by
  rw [Lu,h a List.mem_cons_self,if_neg (by simp)]
  exact MS j ats (i + 1) fun b hb=>h b (List.mem_cons_of_mem _ hb)
theorem open_is {p : Ln} (hp : BF p) {l : List An} (h : LG l) (ats : List Int) (a : Int) (hm : ∀ b ∈ ats ++ [a],Hg b = true) (hl : ats.length ≤ 1000) : Ux p l (ats ++ [a]) = some (some (Ie.mk p (Sc l a)),0):=by
 have hlen:=h.len
 have hn : nth (ats ++ [a]) (W ((((ats ++ [a]).length : Nat) : Int) - 1)) = a:=by
  rw [List.length_append,List.length_singleton,Px (by omega) (by omega)]
  exact CA ats a [] (by omega)
 have hi : inB (W ((((ats ++ [a]).length : Nat) : Int) - 1)) (ats ++ [a]).length = true:=by
  rw [List.length_append,List.length_singleton,Px (by omega) (by omega)]
  exact Kp.2 (by omega)
 unfold Ux
 rw [AE hp]
 simp only [Option.bind_some,decide_true,Bool.not_true,Bool.false_eq_true,if_false]
 rw [h.ok.chk]
 simp only [Option.bind_some,decide_true,Bool.not_true,Bool.false_eq_true,if_false,Sb]
 rw [MS _ _ 0 hm,Ij hi,hn,IF p l a (by omega)]
 rfl
theorem MT (key : ByteArray) : ∀ (l : List Dg) (i : Nat),(l.map (·.Key)).Nodup → ∀ r ∈ l,r.Key = key → ∃ k : Nat,Er key (-1) l i = ((i + k : Nat) : Int) ∧ l[k]? = some r
 | [],_,_,r,h,_=>by cases h
 | x :: l,i,hn,r,h,hk=>by
  rw [Er]
  unfold So
  simp only [List.map_cons,List.nodup_cons] at hn
  by_cases hx : x.Key = key
  ·rw [if_pos (decide_eq_true hx)]
   rcases List.mem_cons.1 h with rfl | h
   ·exact ⟨0,by simp,rfl⟩
   ·exact absurd (List.mem_map_of_mem (f:=(·.Key)) h) (by rw [hk,← hx]; exact hn.1)
  ·rw [if_neg (by simpa using hx)]
   rcases List.mem_cons.1 h with rfl | h
   ·exact absurd hk hx
   ·obtain ⟨k,e1,e2⟩:=MT key l (i + 1) hn.2 r h hk
    exact ⟨k + 1,by rw [e1]; congr 1; omega,by simpa using e2⟩
theorem IH {p : Ln} (hp : BF p) {F : List An} (h : FG F) {r : Dg} (hr : r ∈ p.Races) : Tv p F r.Key = some (r,0):=by
 obtain ⟨k,e1,e2⟩:=MT r.Key p.Races 0 hp.keys r hr rfl
 have hidx : Es p.Races r.Key = (k : Int):=by
  unfold Es
  rw [Sb,e1]
  simp
 have hk : k < p.Races.length:=by
  rcases Nat.lt_or_ge k p.Races.length with h | h
  ·exact h
  ·rw [List.getElem?_eq_none h] at e2; cases e2
 have hf:=GC h r.Key
 have hnth : nth p.Races (k : Int) = r:=by unfold nth; simp [List.getD,e2]
 unfold Tv
 rw [hidx,if_neg (by simp),MR h]
 simp only [Option.bind_some]
 rw [if_neg (by rw [HD]; simp; omega),Ij (Kp.2 (by omega)),hnth]
theorem ask_is {p : Ln} (hp : BF p) {l : List An} (h : LG l) {r : Dg} (hr : r ∈ p.Races) (a : Int) (hm : Hg a = true) : Wv p l r.Key a = some (some (Ie.mk p (Sc l a)),r,0):=by
 have ho:=open_is hp h [] a (by simpa using hm) (by simp)
 rw [List.nil_append] at ho
 unfold Wv
 rw [ho]
 simp only [Option.bind_some,decide_true,Bool.not_true,Bool.false_eq_true,if_false]
 rw [IH hp (h.facts a) hr]
 rfl
theorem LG.of {x : List An} (h : DsG x) (hn : ∀ d ∈ x,ET d) (hl : x.length ≤ 40) : LG x:=⟨h,fun d hd=>⟨(hn d hd).who,(hn d hd).club⟩,hl⟩
end Go.Proofs.YtdndpbbimcilpaaGreatDoor
namespace Go.Proofs.YtdndpbbimcilpaaGreatDoor
open Go
end Go.Proofs.YtdndpbbimcilpaaGreatDoor
namespace Go.Proofs.YtdndpbbimcilpaaGreatDoor
open Go
end Go.Proofs.YtdndpbbimcilpaaGreatDoor
namespace Go.Proofs.YtdndpbbimcilpaaGreatDoor
open Go
theorem HI (j : List Dh → Option (List Dh)) : ∀ (ys : List An) (i : Nat) (x : List Dh),x.length + ys.length ≤ 1000 → Kb j ys i x = j (x ++ ys.map fun d=>Dh.mk d.Who d.Time)
 | [],i,x,_=>by simp [Kb]
 | y :: ys,i,x,h=>by
  simp only [List.length_cons] at h
  rw [Kb,Ij (by unfold Ti; exact decide_eq_true (by omega)),HI j ys (i + 1) _ (by simp; omega)]
  simp
end Go.Proofs.YtdndpbbimcilpaaGreatDoor
namespace Go.Proofs.YtdndpbbimcilpaaGreatDoor
open Go
theorem h10T_ok : Qb = some true:=by decide +kernel
theorem DD {κ ν : Type} [DecidableEq κ] (k k' : κ) (v : ν) : ∀ (m : List (κ × ν)) (i : Nat),(Kl (Fz m k v) k' i).map (·.2) = if k' = k then some v else (Kl m k' i).map (·.2)
 | [],i=>by
  by_cases h : k' = k <;> simp [Fz,Kl,h]
 | (q,u) :: m,i=>by
  by_cases h : k = q
  ·subst h
   by_cases h2 : k' = k <;> simp [Fz,Kl,h2]
  ·by_cases h2 : k' = q
   ·subst h2
    have h3 : ¬ k' = k:=fun e=>h e.symm
    simp [Fz,Kl,h,h3]
   ·simp [Fz,Kl,h,h2,DD k k' v m (i + 1)]
theorem II {κ ν : Type} [DecidableEq κ] (m : List (κ × ν)) (k k' : κ) (v d : ν) : Ek (Fz m k v) k' d = if k' = k then v else Ek m k' d:=by
 unfold Ek Zl
 rw [DD]
 split <;> simp
def DE (x y : Dh) : Bool:=decide (Lj x y < 0)
theorem IJ (l : List Dh) (hl : l.length ≤ 19) : Gx l = some (Sh DE l):=by
 have hs : Fq l 0 (l.length : Int) = some (Sh DE l):=by
  unfold Fq
  simp only [Sb]
  have hins : ∀ (k : List Dh → Option (List Dh)) (rp : List Dh) (x : Dh) (post : List Dh),((rp ++ x :: post).length : Int) = (l.length : Int) → (∀ y,y ∈ rp ∨ y = x ∨ y ∈ post → y ∈ (rp ++ x :: post)) →
    Dm 0 k (((rp.length : Int) - 0).toNat + 2) (rp.reverse ++ x :: post) (rp.length : Int) = k ((Tm DE x rp).reverse ++ post):=by
   intro k rp x post h1 _
   exact JF (fun x y k=>k (DE x y)) DE k (Dm 0 k) (fun _ _ _=>rfl) rp x post _ (by omega) (by simp at h1; omega) fun y _ k'=>rfl
  cases l with
  | nil=>rfl
  | cons x l =>
   have hw : W (0 + 1) = (([x] : List Dh).length : Int):=rfl
   rw [hw]
   exact CB DE (fun x=>some x) (fun k x i=>Dm 0 k ((i - 0).toNat + 2) x i) (Ea ((x :: l).length : Int) 0 fun x=>some x) ((x :: l).length : Int) (fun _ _ _=>rfl)
    (fun k rp x post h1 h2=>hins k rp x post h1 h2) l [x] _ (by simp only [List.length_cons,List.length_nil]; omega) (by simp only [List.length_cons,List.length_nil]; omega) (by simp only [List.length_cons,List.length_nil] at hl ⊢; omega)
 unfold Gx Ia
 simp only [Sb]
 rw [Em,if_neg (by simp; omega),hs]
 simp only [Option.bind_some]
 rw [En,if_neg (by simp; omega)]
 rfl
theorem IK (l : List Dh) (hl : l.length ≤ 19) : Lh l = some (Sh DE l):=by
 unfold Lh Pn
 rw [GW (by simp; omega),Option.bind_some,List.nil_append,IJ l hl]
 rfl
def stN : List ByteArray → List Df
 | [a]=>[Df.mk a 1 2]
 | [a,b]=>[Df.mk a 1 2,Df.mk b 1 3]
 | [a,b,c]=>[Df.mk c 1 1,Df.mk a 1 2,Df.mk b 1 3]
 | [a,b,c,d]=>[Df.mk b 1 2,Df.mk d 2 1,Df.mk a 2 2,Df.mk c 2 3]
 | _=>[]
theorem dr0 (l : List Dh) (hl : l.length = 0) (h : Lh l = some []) : Md (El.mk 1 3 1 2) l = some (stN [],0):=by
 unfold Md
 rw [hl,show Pu (El.mk 1 3 1 2) ((0 : Nat) : Int) = some ([],0) by decide +kernel,h]
 kernel_rfl
theorem dr1 (l : List Dh) (a : Dh) (hl : l.length = 1) (h : Lh l = some [a]) : Md (El.mk 1 3 1 2) l = some (stN [a.Who],0):=by
 unfold Md
 rw [hl,show Pu (El.mk 1 3 1 2) ((1 : Nat) : Int) = some ([1],0) by decide +kernel,h]
 kernel_rfl
theorem dr2 (l : List Dh) (a b : Dh) (hl : l.length = 2) (h : Lh l = some [a,b]) : Md (El.mk 1 3 1 2) l = some (stN [a.Who,b.Who],0):=by
 unfold Md
 rw [hl,show Pu (El.mk 1 3 1 2) ((2 : Nat) : Int) = some ([2],0) by decide +kernel,h]
 kernel_rfl
theorem dr3 (l : List Dh) (a b c : Dh) (hl : l.length = 3) (h : Lh l = some [a,b,c]) : Md (El.mk 1 3 1 2) l = some (stN [a.Who,b.Who,c.Who],0):=by
 unfold Md
 rw [hl,show Pu (El.mk 1 3 1 2) ((3 : Nat) : Int) = some ([3],0) by decide +kernel,h]
 kernel_rfl
theorem dr4 (l : List Dh) (a b c d : Dh) (hl : l.length = 4) (h : Lh l = some [a,b,c,d]) : Md (El.mk 1 3 1 2) l = some (stN [a.Who,b.Who,c.Who,d.Who],0):=by
 unfold Md
 rw [hl,show Pu (El.mk 1 3 1 2) ((4 : Nat) : Int) = some ([1,3],0) by decide +kernel,h]
 kernel_rfl
theorem draw_is (l S : List Dh) (hl : l.length ≤ 4) (hS : S.length = l.length) (h : Lh l = some S) : Md (El.mk 1 3 1 2) l = some (stN (S.map (·.Who)),0):=by
 match S,hS,h with
 | [],hS,h=>exact dr0 l (by simpa using hS.symm) h
 | [a],hS,h=>exact dr1 l a (by simpa using hS.symm) h
 | [a,b],hS,h=>exact dr2 l a b (by simpa using hS.symm) h
 | [a,b,c],hS,h=>exact dr3 l a b c (by simpa using hS.symm) h
 | [a,b,c,d],hS,h=>exact dr4 l a b c d (by simpa using hS.symm) h
 | _ :: _ :: _ :: _ :: _ :: _,hS,_=>simp at hS; omega
theorem EV : ∀ (ys : List Dh) (i : Nat) (m : List (ByteArray × Bool)),(∀ y ∈ ys,Gn y.Who = some true ∧ 0 ≤ y.Time ∧ y.Time ≤ 360000 ∧ Ek m y.Who false = false) → (ys.map (·.Who)).Nodup →
  Iq (fun _ x2=>if x2 then some 6 else some 0) ys i m false = some 0
 | [],_,_,_,_=>rfl
 | y :: ys,i,m,h,hn=>by
  obtain ⟨h1,h2,h3,h4⟩:=h y (by simp)
  rw [List.map_cons,List.nodup_cons] at hn
  have hw : Cy y.Time 0 360000 = true:=by unfold Cy; simp; omega
  rw [Iq,h1,Option.bind_some,if_neg (by simp),hw,if_neg (by simp),h4,Bool.or_false]
  refine EV ys (i + 1) _ (fun z hz=>?_) hn.2
  obtain ⟨g1,g2,g3,g4⟩:=h z (by simp [hz])
  refine ⟨g1,g2,g3,?_⟩
  rw [II,if_neg (fun e=>hn.1 (by rw [← e]; exact List.mem_map.2 ⟨z,hz,rfl⟩)),g4]
theorem Draw_is (l : List Dh) (hl : l.length ≤ 4) (h : ∀ y ∈ l,Gn y.Who = some true ∧ 0 ≤ y.Time ∧ y.Time ≤ 360000) (hn : (l.map (·.Who)).Nodup) : Uz (El.mk 1 3 1 2) l = some (stN ((Sh DE l).map (·.Who)),0):=by
 have hc : Pc l = some 0:=by
  unfold Pc
  rw [if_neg (by simp; omega),Sb]
  exact EV l 0 [] (fun y hy=>⟨(h y hy).1,(h y hy).2.1,(h y hy).2.2,rfl⟩) hn
 have hp : Kn (El.mk 1 3 1 2) = 0:=by decide +kernel
 unfold Uz Rr
 rw [hp,if_neg (by simp),hc,Option.bind_some,Option.bind_some,if_neg (by simp),draw_is l _ hl (We DE l) (IK l (by omega))]
 rfl
def AY : List ByteArray:=[Te,Yo,Yp,Yq]
def extT (L : List (List ByteArray)) : List (List ByteArray):=L.flatMap fun l=>(AY.filter fun x=>!(l.any fun y=>decide (y = x))).map (· :: l)
def MU : Nat → List (List ByteArray)
 | 0=>[[]]
 | k + 1=>extT (MU k)
theorem HJ : ∀ (ns : List ByteArray),ns.Nodup → (∀ x ∈ ns,x ∈ AY) → ns ∈ MU ns.length
 | [],_,_=>by simp [MU]
 | x :: ns,hn,h=>by
  rw [List.nodup_cons] at hn
  have ih:=HJ ns hn.2 fun z hz=>h z (by simp [hz])
  rw [List.length_cons,MU,extT,List.mem_flatMap]
  exact ⟨ns,ih,List.mem_map.2 ⟨x,List.mem_filter.2 ⟨h x (by simp),by
  have : (ns.any fun y=>decide (y = x)) = false:=List.any_eq_false.2 fun y hy e=>hn.1 ((of_decide_eq_true e) ▸ hy)
  simp [this]⟩,rfl⟩⟩
def hts (l : List Df) (m : Int) : Int:=l.foldl (fun m y=>Yc m y.Heat) m
def MV (key : ByteArray) (st : List Df) : Bool :=
 !decide (hts st 0 = 0) && (match Me [(Ka.mk key (hts st 0) 100 20 0)] 0 with | some r=>decide (r.2 = 0) && decide ((r.1.length : Int) = hts st 0) | none=>false) &&
 decide (Qa (El.mk 1 3 1 2) st = some 0) &&
 (match Option.bind (Nb (st.map (·.Who))) Lo with | some r=>decide ((r.length : Int) = (st.length : Int)) | none=>false)
theorem MW : (([1,2,3,4] : List Nat).all fun n=>(MU n).all fun ns=>([Np,Qi,Sz] : List ByteArray).all fun key=>MV key (stN ns)) = true:=by decide +kernel
theorem fine_is {key : ByteArray} (hk : key ∈ [Np,Qi,Sz]) {ns : List ByteArray} (h0 : ns ≠ []) (h4 : ns.length ≤ 4) (hn : ns.Nodup) (h : ∀ x ∈ ns,x ∈ AY) : MV key (stN ns) = true:=by
 have h1:=MW
 rw [List.all_eq_true] at h1
 have hp:=List.length_pos_iff.2 h0
 have h2:=h1 ns.length (by simp; omega)
 rw [List.all_eq_true] at h2
 have h3:=h2 ns (HJ ns hn h)
 rw [List.all_eq_true] at h3
 exact h3 key hk
theorem JV (j : List ByteArray → Int → Option Bool) : ∀ (ys : List Df) (i : Nat) (x : List ByteArray) (m : Int),x.length + ys.length ≤ 1000 → Gb j ys i x m = j (x ++ ys.map (·.Who)) (hts ys m)
 | [],i,x,m,_=>by rw [Gb]; simp [hts]
 | y :: ys,i,x,m,h=>by
  simp only [List.length_cons] at h
  rw [Gb,GW (by unfold Ti; simp; omega),JV j ys (i + 1) _ _ (by simp; omega)]
  simp [hts]
theorem stN_len (ns : List ByteArray) : (stN ns).length ≤ 4:=by
 unfold stN
 split <;> simp
theorem KY {p : Ln} (hp : BF p) {l : List An} (h : LG l) {r : Dg} (hr : r ∈ p.Races) : ∃ ns,Sv p (El.mk 1 3 1 2) l r.Key 60 = some (stN ns,0) ∧ ns.length ≤ 4 ∧ ns.Nodup ∧ ∀ x ∈ ns,x ∈ AY:=by
 have hm : Hg 60 = true:=by decide
 have hf:=GC (h.facts 60) r.Key
 have hl:=HD r.Key (Sc l 60)
 have hup:=entL_up r.Key (Sc l 60)
 have hE : ∀ d ∈ BQ r.Key (Sc l 60),Gn d.Who = some true ∧ 0 ≤ d.Time ∧ d.Time ≤ 360000 ∧ d.Who ∈ AY:=fun d hd=>by
  obtain ⟨e1,e2,e3⟩:=entL_ok hd
  obtain ⟨g,g1,g2⟩:=(h.facts 60).ok d e3
  exact ⟨(g.who (by omega)).1,(g.time (.inl e2)).1,(g.time (.inl e2)).2,(MQ (h.facts 60) e3 (by omega)).1⟩
 have hnd : (((BQ r.Key (Sc l 60)).map fun d=>Dh.mk d.Who d.Time).map (·.Who)).Nodup:=by
  rw [List.map_map]
  refine List.Pairwise.map _ (fun a b hab e=>?_) hup
  have e : a.Who = b.Who:=e
  rw [CY,e,Ya] at hab
  simp at hab
 have hseed : Su p (Sc l 60) r.Key = some ((BQ r.Key (Sc l 60)).map fun d=>Dh.mk d.Who d.Time):=by
  unfold Su
  rw [MR (h.facts 60)]
  simp only [Option.bind_some,Sb]
  rw [HI _ _ 0 [] (by simp; omega),List.nil_append]
 generalize hsd : ((BQ r.Key (Sc l 60)).map fun d=>Dh.mk d.Who d.Time) = sd at hnd hseed
 have hsl : sd.length ≤ 4:=by rw [← hsd,List.length_map]; omega
 have hso : ∀ y ∈ sd,Gn y.Who = some true ∧ 0 ≤ y.Time ∧ y.Time ≤ 360000 ∧ y.Who ∈ AY:=fun y hy=>by
  rw [← hsd] at hy
  obtain ⟨d,hd,rfl⟩:=List.mem_map.1 hy
  exact hE d hd
 have hperm:=(IA DE sd).map (·.Who)
 refine ⟨(Sh DE sd).map (·.Who),?_,by rw [List.length_map,We]; exact hsl,hperm.nodup_iff.2 hnd,fun x hx=>?_⟩
 ·have hpool : Kn (El.mk 1 3 1 2) = 0:=by decide +kernel
  unfold Sv
  rw [AE hp,Option.bind_some,if_neg (by simp),hpool,if_neg (by simp),ask_is hp h hr 60 hm]
  simp only [Option.bind_some,decide_true,Bool.not_true,Bool.false_eq_true,if_false]
  rw [hseed,Option.bind_some,Draw_is sd hsl (fun y hy=>⟨(hso y hy).1,(hso y hy).2.1,(hso y hy).2.2.1⟩) hnd]
  rfl
 ·obtain ⟨y,hy,rfl⟩:=List.mem_map.1 (hperm.mem_iff.1 hx)
  exact (hso y hy).2.2.2
theorem MX (a1 a3 : Int) {p : Ln} (hp : BF p) {l : List An} (h : LG l) (j : Option Bool) : ∀ (ys : List Dg) (i : Nat),(∀ r ∈ ys,r ∈ p.Races) → Gi (p,a1) (l,a3) j ys i = j
 | [],_,_=>rfl
 | y :: ys,i,hy=>by
  have ih:=MX a1 a3 hp h j ys (i + 1) fun r hr=>hy r (by simp [hr])
  obtain ⟨ns,s1,s2,s3,s4⟩:=KY hp h (hy y (by simp))
  have hlen:=stN_len ns
  rw [Gi]
  simp only [Sb,ih]
  rw [s1,Option.bind_some,if_neg (by simp),JV _ _ 0 [] 0 (by simp; omega),List.nil_append]
  by_cases h0 : ns = []
  ·subst h0
   rw [if_pos (by decide)]
  ·have hF:=fine_is (hp.races y (hy y (by simp))).2 h0 s2 s3 s4
   unfold MV at hF
   generalize stN ns = st at hF
   simp only [Bool.and_eq_true] at hF
   obtain ⟨⟨⟨f1,f2⟩,f3⟩,f4⟩:=hF
   rw [if_neg (by simpa using f1)]
   cases hT : Me [(Ka.mk y.Key (hts st 0) 100 20 0)] 0 with
   | none=>rw [hT] at f2; cases f2
   | some r5 =>
    rw [hT] at f2
    simp only [Bool.and_eq_true] at f2
    rw [Option.bind_some,f2.1,f2.2,of_decide_eq_true f3]
    simp only [Bool.not_true,Bool.or_self,Bool.false_eq_true,if_false,Option.bind_some,decide_true]
    cases hS : Nb (st.map (·.Who)) with
    | none=>rw [hS] at f4; cases f4
    | some r7 =>
     rw [hS] at f4
     simp only [Option.bind_some] at f4 ⊢
     cases hC : Lo r7 with
     | none=>rw [hC] at f4; cases f4
     | some r8 =>
      rw [hC] at f4
      simp only [Option.bind_some] at f4 ⊢
      rw [f4,if_neg (by simp)]
theorem plain_TopHeatsAreTimed (l : List Int) (hl : l.length ≤ 9223372036854775807) : Lv l = some true:=by
 have hL : AB l:=by unfold AB; omega
 obtain ⟨p,a1,e1,p1,q1,hp⟩:=MP hL (a:=0) (by omega) (by omega)
 obtain ⟨n,a2,e2,p2,q2,n1,n2⟩:=Vj hL (a:=a1) (by omega) (by omega) 4 16 (by omega) (by omega) (by omega)
 obtain ⟨x,a3,e3,p3,q3,x1,x2,x3⟩:=KW hL n (by omega) (by omega) (a:=a2) (by omega) (by omega)
 have hG : LG x:=LG.of x2 x3 (by omega)
 unfold Lv
 rw [e1]; simp only [Option.bind_some]
 rw [e2]; simp only [Option.bind_some]
 rw [e3]; simp only [Option.bind_some,Sb]
 rw [MX a1 a3 hp hG _ p.Races 0 fun _ h=>h,h10T_ok]
 rfl
end Go.Proofs.YtdndpbbimcilpaaGreatDoor
