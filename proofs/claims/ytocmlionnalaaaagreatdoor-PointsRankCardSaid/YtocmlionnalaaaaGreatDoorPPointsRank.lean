/- The plain law of PointsRank. No program stands here but its twins. -/
import Derived.Test.YtocmlionnalaaaaGreatDoorPSums
import Derived.Test.YtocmlionnalaaaaGreatDoorPPtsC
namespace Go.Proofs.YtocmlionnalaaaaGreatDoor
open Go
abbrev Mny:=Cj
abbrev Zm : Mny:=Cj.mk 0 0 0
def Ts (r : Int) (v : Mny) : Mny :=
 Cj.mk (if (W (r - 1)) = 0 then W ((nth [v.a0_,v.a1_,v.a2_] (W (r - 1))) + 1) else v.a0_) (if (W (r - 1)) = 1 then W ((nth [v.a0_,v.a1_,v.a2_] (W (r - 1))) + 1) else v.a1_) (if (W (r - 1)) = 2 then W ((nth [v.a0_,v.a1_,v.a2_] (W (r - 1))) + 1) else v.a2_)
structure Bd (n : Nat) (v : Mny) : Prop where
 a : 0 ≤ v.a0_ ∧ v.a0_ ≤ n
 b : 0 ≤ v.a1_ ∧ v.a1_ ≤ n
 c : 0 ≤ v.a2_ ∧ v.a2_ ≤ n
theorem Bd.up {n m : Nat} {v : Mny} (h : Bd n v) (k : n ≤ m) : Bd m v:=⟨⟨h.a.1,by have:=h.a.2; omega⟩,⟨h.b.1,by have:=h.b.2; omega⟩,⟨h.c.1,by have:=h.c.2; omega⟩⟩
theorem bump_bd {n : Nat} (hn : n ≤ 100000) {r : Int} (h1 : 1 ≤ r) (h3 : r ≤ 3) {v : Mny} (h : Bd n v) : Bd (n + 1) (Ts r v):=by
 obtain ⟨⟨a1,a2⟩,⟨b1,b2⟩,⟨c1,c2⟩⟩:=h
 have hw : W (r - 1) = r - 1:=Jw (by omega) (by omega)
 have hr : r = 1 ∨ r = 2 ∨ r = 3:=by omega
 unfold Ts
 rw [hw]
 rcases hr with rfl | rfl | rfl
 ·have e : W (v.a0_ + 1) = v.a0_ + 1:=Jw (by omega) (by omega)
  refine ⟨?_,?_,?_⟩ <;> simp [nth,e] <;> omega
 ·have e : W (v.a1_ + 1) = v.a1_ + 1:=Jw (by omega) (by omega)
  refine ⟨?_,?_,?_⟩ <;> simp [nth,e] <;> omega
 ·have e : W (v.a2_ + 1) = v.a2_ + 1:=Jw (by omega) (by omega)
  refine ⟨?_,?_,?_⟩ <;> simp [nth,e] <;> omega
def BD (x : List Ci) (ns : List ByteArray) (m : List (ByteArray × Mny)) (n : Nat) : Prop :=
 ∃ ks : List ByteArray,ks.Nodup ∧ x = ks.map (fun k=>Ci.mk k (Cr m k Zm)) ∧ (∀ k,k ∈ ks ↔ k ∈ ns) ∧ (∀ k,k ∉ ks → Cr m k Zm = Zm) ∧ ∀ k,Bd n (Cr m k Zm)
theorem FC : BD [] [] [] 0:=⟨[],List.nodup_nil,rfl,fun _=>Iff.rfl,fun _ _=>rfl,fun _=>show Bd 0 Zm from ⟨by decide,by decide,by decide⟩⟩
theorem AH {ks : List ByteArray} {ns : List ByteArray} {m : List (ByteArray × Mny)} {n : Nat} (hn : n ≤ 100000) {c : ByteArray} {r : Int} (h1 : 1 ≤ r) (h3 : r ≤ 3) (hnd : ks.Nodup) (hm : ∀ k,k ∈ ks ↔ k = c ∨ k ∈ ns) (h0 : ∀ k,k ∉ ks → Cr m k Zm = Zm) (hb : ∀ k,Bd n (Cr m k Zm)) :
  BD (ks.map fun k=>Ci.mk k (Cr (Mo m c (Ts r (Cr m c Zm))) k Zm)) (ns ++ [c]) (Mo m c (Ts r (Cr m c Zm))) (n + 1):=by
 refine ⟨ks,hnd,rfl,fun k=>?_,fun k hk=>?_,fun k=>?_⟩
 ·rw [hm]; simp [or_comm]
 ·rw [Pm,if_neg (fun e=>hk ((hm k).2 (.inl e)))]
  exact h0 k hk
 ·rw [Pm]
  split
  ·exact bump_bd hn h1 h3 (hb c)
  ·exact (hb k).up (by omega)
theorem idx_won (y : An) (x : List Ci) : (∃ pre w post,x = pre ++ w :: post ∧ w.club_ = y.Club ∧ Dg x y = (pre.length : Int)) ∨ ((∀ w ∈ x,w.club_ ≠ y.Club) ∧ Dg x y = -1):=by
 rcases EH (fun (w : Ci) (k : Bool → Int)=>k (Lk w y)) (fun w=>Lk w y) (-1) id (Dq y (-1)) (fun _=>rfl) (fun _ _ _=>rfl) x 0 (fun _ _ _=>rfl) with ⟨pre,w,post,e,_,g2,g3⟩ | ⟨g1,g2⟩
 ·refine .inl ⟨pre,w,post,e,of_decide_eq_true g2,?_⟩
  unfold Dg
  rw [Ma,g3]
  simp
 ·refine .inr ⟨fun w hw=>of_decide_eq_false (g1 w hw),?_⟩
  unfold Dg
  rw [Ma,g2]
theorem FD {x : List Ci} {ns : List ByteArray} {m : List (ByteArray × Mny)} {n : Nat} (h : BD x ns m n) (hn : n ≤ 100000) (hl : x.length ≤ 1000) (y : An) (h1 : 1 ≤ y.Rank) (h3 : y.Rank ≤ 3) (j2 : List Ci → Option (List Dy × Int)) :
  ∃ X,BD X (ns ++ [y.Club]) (Mo m y.Club (Ts y.Rank (Cr m y.Club Zm))) (n + 1) ∧ X.length ≤ x.length + 1 ∧
   (Ex (fun (x3 : List Ci) (x4 : Int) =>
 Chk (inB x4 x3.length) (
 Chk (inB (W (y.Rank - 1)) 3) (
 Chk (inB x4 x3.length) (
 Chk (inB (W (y.Rank - 1)) 3) (
 j2 (x3.set x4.toNat (Ci.mk ((nth x3 x4).club_) (Ts y.Rank ((nth x3 x4).many_)))))))) ) (fun j3 =>
 if decide ((Dg x y) < 0) then
 Chk (Pj x.length) (
 j3 (x ++ [(Ci.mk y.Club (Cj.mk 0 0 0))]) (x.length : Int))
 else
 j3 x (Dg x y))) = j2 X:=by
 obtain ⟨ks,hnd,rfl,hm,h0,hb⟩:=h
 have hw : inB (W (y.Rank - 1)) 3 = true:=by rw [Jw (by omega) (by omega),Ge]; omega
 rw [Ma]
 rcases idx_won y (ks.map (fun k=>Ci.mk k (Cr m k Zm))) with ⟨pre,w,post,e,g2,g3⟩ | ⟨g1,g2⟩
 ·rw [g3,if_neg (by simp),e]
  dsimp only
  have hin : inB (pre.length : Int) (pre ++ w :: post).length = true:=Ge.2 ⟨by omega,by simp; omega⟩
  rw [Ky hin,Ky hw,Qa pre w post rfl,Ky hin,Ky hw]
  obtain ⟨k1,k2,ek,e1,e2⟩:=List.map_eq_append_iff.1 e
  obtain ⟨k0,k3,ek2,e3,e4⟩:=List.map_eq_cons_iff.1 e2
  have hk0 : k0 = y.Club:=by rw [← g2,← e3]
  subst hk0
  have hw2 : w.many_ = Cr m y.Club Zm:=by rw [← e3]
  have hset : (pre ++ w :: post).set (pre.length : Int).toNat (Ci.mk w.club_ (Ts y.Rank w.many_)) = pre ++ Ci.mk w.club_ (Ts y.Rank w.many_) :: post:=by
   rw [Int.toNat_natCast,List.set_append_right _ _ (Nat.le_refl _)]
   simp
  refine ⟨_,?_,?_,rfl⟩
  ·rw [hset,g2,hw2]
   have hks : ks = k1 ++ y.Club :: k3:=by rw [ek,ek2]
   have hnot : y.Club ∉ k1 ∧ y.Club ∉ k3:=by
    rw [hks,List.nodup_append] at hnd
    refine ⟨fun hk=>hnd.2.2 _ hk _ (by simp) rfl,(List.nodup_cons.1 hnd.2.1).1⟩
   have hX : pre ++ Ci.mk y.Club (Ts y.Rank (Cr m y.Club Zm)) :: post = ks.map fun k=>Ci.mk k (Cr (Mo m y.Club (Ts y.Rank (Cr m y.Club Zm))) k Zm):=by
    rw [hks,List.map_append,List.map_cons,← e1,← e4,Pm,if_pos rfl]
    congr 1
    ·refine List.map_congr_left fun k hk=>?_
     rw [Pm,if_neg (fun e=>hnot.1 (by rw [← e]; exact hk))]
    ·congr 1
     refine List.map_congr_left fun k hk=>?_
     rw [Pm,if_neg (fun e=>hnot.2 (by rw [← e]; exact hk))]
   rw [hX]
   refine AH hn h1 h3 hnd (fun k=>?_) h0 hb
   rw [hm]
   constructor
   ·intro h; exact .inr h
   ·rintro (rfl | h)
    ·rw [← hm,hks]; simp
    ·exact h
  ·rw [List.length_set,← e]; omega
 ·rw [g2,if_pos (by decide),Ky (by unfold Pj; exact decide_eq_true (by omega))]
  dsimp only
  have hc : y.Club ∉ ks:=fun hk=>g1 _ (List.mem_map.2 ⟨_,hk,rfl⟩) rfl
  have hin : inB ((ks.map (fun k=>Ci.mk k (Cr m k Zm))).length : Int) (ks.map (fun k=>Ci.mk k (Cr m k Zm)) ++ [Ci.mk y.Club Zm]).length = true:=Ge.2 ⟨by omega,by simp; omega⟩
  rw [Ky hin,Ky hw,Qa (ks.map (fun k=>Ci.mk k (Cr m k Zm))) (Ci.mk y.Club Zm) [] rfl,Ky hin,Ky hw]
  refine ⟨_,?_,?_,rfl⟩
  ·have hset : (ks.map (fun k=>Ci.mk k (Cr m k Zm)) ++ [Ci.mk y.Club Zm]).set ((ks.map (fun k=>Ci.mk k (Cr m k Zm))).length : Int).toNat (Ci.mk y.Club (Ts y.Rank Zm)) = ks.map (fun k=>Ci.mk k (Cr m k Zm)) ++ [Ci.mk y.Club (Ts y.Rank Zm)]:=by
    rw [Int.toNat_natCast,List.set_append_right _ _ (Nat.le_refl _)]
    simp
   show BD ((ks.map (fun k=>Ci.mk k (Cr m k Zm)) ++ [Ci.mk y.Club Zm]).set ((ks.map (fun k=>Ci.mk k (Cr m k Zm))).length : Int).toNat (Ci.mk y.Club (Ts y.Rank Zm))) _ _ _
   rw [hset]
   have hX : ks.map (fun k=>Ci.mk k (Cr m k Zm)) ++ [Ci.mk y.Club (Ts y.Rank Zm)] = (ks ++ [y.Club]).map fun k=>Ci.mk k (Cr (Mo m y.Club (Ts y.Rank (Cr m y.Club Zm))) k Zm):=by
    rw [List.map_append,List.map_cons,List.map_nil,Pm,if_pos rfl,h0 _ hc]
    congr 1
    refine List.map_congr_left fun k hk=>?_
    rw [Pm,if_neg (fun e=>hc (by rw [← e]; exact hk))]
   rw [hX]
   refine AH hn h1 h3 ?_ (fun k=>?_) (fun k hk=>h0 k fun h=>hk (List.mem_append_left _ h)) hb
   ·rw [List.nodup_append]
    exact ⟨hnd,by simp,fun a ha b hb e=>hc (by rw [← List.mem_singleton.1 hb,← e]; exact ha)⟩
   ·rw [List.mem_append,hm,List.mem_singleton,or_comm]
  ·simp
theorem Sp (j : List Ci → Option (List Dy × Int)) (j' : List ByteArray → List (ByteArray × Mny) → Option (List Dy)) : ∀ (ys : List An) (i i' : Nat) (x : List Ci) (ns : List ByteArray) (m : List (ByteArray × Mny)) (n : Nat),
  BD x ns m n → x.length + ys.length ≤ 1000 → ns.length + ys.length ≤ 1000 → n + ys.length ≤ 1000 →
  ∃ X N M,Hv j ys i x = j X ∧ Gk j' ys i' ns m = j' N M ∧ BD X N M 1000 ∧ (∀ k ∈ N,k ∈ ns ∨ (k ≠ Co ∧ ∃ y ∈ ys,y.Club = k)) ∧ N.length ≤ ns.length + ys.length
 | [],i,i',x,ns,m,n,h,h1,h2,h3=>by
  obtain ⟨ks,a1,a2,a3,a4,a5⟩:=h
  exact ⟨x,ns,m,rfl,rfl,⟨ks,a1,a2,a3,a4,fun k=>(a5 k).up (by simp at h3; omega)⟩,fun k hk=>.inl hk,by simp⟩
 | y :: ys,i,i',x,ns,m,n,h,h1,h2,h3=>by
  simp only [List.length_cons] at h1 h2 h3
  rw [Hv,Gk]
  by_cases hg : y.Club ≠ Co ∧ 1 ≤ y.Rank ∧ y.Rank ≤ 3
  ·obtain ⟨g1,g2,g3⟩:=hg
   have c1 : ((decide (y.Club = Co)) || (!(Fd y.Rank 1 3))) = false:=by unfold Fd; simp [g1,g2,g3]
   have c2 : ((!decide (y.Club = Co)) && (Ev y.Rank 1 3)) = true:=by unfold Ev; simp [g1,g2,g3]
   have hw : inB (W (y.Rank - 1)) 3 = true:=by rw [Jw (by omega) (by omega),Ge]; omega
   obtain ⟨X,r1,r2,r3⟩:=FD h (by omega) (by omega) y g2 g3 (fun x2=>Hv j ys (i + 1) x2)
   obtain ⟨X',N,M,q1,q2,q3,q4,q5⟩:=Sp j j' ys (i + 1) (i' + 1) X (ns ++ [y.Club]) _ (n + 1) r1 (by omega) (by simp; omega) (by omega)
   refine ⟨X',N,M,?_,?_,q3,fun k hk=>?_,by simp at q5 ⊢; omega⟩
   ·rw [Ma,c1,if_neg (by simp),← q1,← r3]
    rfl
   ·rw [Ma,Ma,c2,if_pos rfl,Ky hw,Ky hw,Ky (by unfold Pj; exact decide_eq_true (by omega)),← q2]
    rfl
   ·rcases q4 k hk with hk | ⟨hk,z,hz,rfl⟩
    ·rcases List.mem_append.1 hk with hk | hk
     ·exact .inl hk
     ·obtain rfl:=List.mem_singleton.1 hk
      exact .inr ⟨g1,y,by simp,rfl⟩
    ·exact .inr ⟨hk,z,by simp [hz],rfl⟩
  ·have c1 : ((decide (y.Club = Co)) || (!(Fd y.Rank 1 3))) = true:=by
    unfold Fd
    by_cases e : y.Club = Co
    ·simp [e]
    ·have : ¬ (1 ≤ y.Rank ∧ y.Rank ≤ 3):=fun h=>hg ⟨e,h⟩
     by_cases e1 : 1 ≤ y.Rank
     ·have : ¬ y.Rank ≤ 3:=fun h=>this ⟨e1,h⟩
      simp [e1,this]
     ·simp [e1]
   have c2 : ((!decide (y.Club = Co)) && (Ev y.Rank 1 3)) = false:=by
    unfold Ev
    by_cases e : y.Club = Co
    ·simp [e]
    ·have : ¬ (1 ≤ y.Rank ∧ y.Rank ≤ 3):=fun h=>hg ⟨e,h⟩
     by_cases e1 : 1 ≤ y.Rank
     ·have : ¬ y.Rank ≤ 3:=fun h=>this ⟨e1,h⟩
      simp [e1,this]
     ·simp [e1]
   obtain ⟨X',N,M,q1,q2,q3,q4,q5⟩:=Sp j j' ys (i + 1) (i' + 1) x ns m n h (by omega) (by omega) (by omega)
   refine ⟨X',N,M,?_,?_,q3,fun k hk=>?_,by simp at q5 ⊢; omega⟩
   ·rw [Ma,c1,if_pos rfl,← q1]
   ·rw [Ma,Ma,c2,if_neg (by simp),← q2]
   ·rcases q4 k hk with hk | ⟨hk,z,hz,rfl⟩
    ·exact .inl hk
    ·exact .inr ⟨hk,z,by simp [hz],rfl⟩
def Pw (u v : Mny) : Bool:=decide (v.a0_ < u.a0_ ∨ (v.a0_ = u.a0_ ∧ (v.a1_ < u.a1_ ∨ (v.a1_ = u.a1_ ∧ v.a2_ < u.a2_))))
theorem Nm {u v : Mny} : Pw u v = true ↔ v.a0_ < u.a0_ ∨ (v.a0_ = u.a0_ ∧ (v.a1_ < u.a1_ ∨ (v.a1_ = u.a1_ ∧ v.a2_ < u.a2_))):=by simp [Pw]
def Ry (a b : Ci) : Bool:=Pw a.many_ b.many_ || (decide (a.many_ = b.many_) && decide (cB a.club_ b.club_ < 0))
theorem Xf {a b : Ci} : Ry a b = true ↔ Pw a.many_ b.many_ = true ∨ (a.many_ = b.many_ ∧ cB a.club_ b.club_ < 0):=by simp [Ry]
theorem BE {u v w : Mny} (h1 : Pw u v = true) (h2 : Pw v w = true) : Pw u w = true:=by
 rw [Nm] at *; omega
theorem FE (u : Mny) : Pw u u = false:=by
 cases h : Pw u u with
 | false=>rfl
 | true=>rw [Nm] at h; omega
theorem FF {u v : Mny} (h : Pw u v = false) (k : Pw v u = false) : u = v:=by
 have h1 : ¬ (Pw u v = true):=by rw [h]; simp
 have h2 : ¬ (Pw v u = true):=by rw [k]; simp
 rw [Nm] at h1 h2
 obtain ⟨a,b,c⟩:=u
 obtain ⟨a',b',c'⟩:=v
 simp only at h1 h2
 have e1 : a = a':=by omega
 have e2 : b = b':=by omega
 have e3 : c = c':=by omega
 rw [e1,e2,e3]
theorem Xg (x y z : Ci) (h1 : Ry x y = true) (h2 : Ry y z = true) : Ry x z = true:=by
 rw [Xf] at *
 rcases h1 with h1 | ⟨e1,h1⟩
 ·rcases h2 with h2 | ⟨e2,h2⟩
  ·exact .inl (BE h1 h2)
  ·exact .inl (by rw [← e2]; exact h1)
 ·rcases h2 with h2 | ⟨e2,h2⟩
  ·exact .inl (by rw [e1]; exact h2)
  ·exact .inr ⟨e1.trans e2,Sm h1 h2⟩
theorem FG (x : Ci) : Ry x x = false:=by
 unfold Ry
 rw [FE,Pn]
 simp
theorem FH {x y : Ci} (hne : x.club_ ≠ y.club_) (h : Ry y x = false) : Ry x y = true:=by
 have h1 : ¬ (Ry y x = true):=by rw [h]; simp
 rw [Xf] at h1 ⊢
 by_cases hv : Pw x.many_ y.many_ = true
 ·exact .inl hv
 ·right
  have e : y.many_ = x.many_:=FF (Bool.eq_false_iff.2 fun k=>h1 (.inl k)) (Bool.eq_false_iff.2 hv)
  refine ⟨e.symm,?_⟩
  have h2 : ¬ cB y.club_ x.club_ < 0:=fun k=>h1 (.inr ⟨e,k⟩)
  have h0 : cB x.club_ y.club_ ≠ 0:=fun e=>hne (Ul e)
  have:=Wl x.club_ y.club_
  omega
theorem or4 (a b c d : Int) : My [a,b,c,d] = if a ≠ 0 then a else if b ≠ 0 then b else if c ≠ 0 then c else d:=by
 unfold My
 simp only [Ma,Ii]
 by_cases ha : a = 0
 ·by_cases hb : b = 0
  ·by_cases hc : c = 0
   ·by_cases hd : d = 0 <;> simp [ha,hb,hc,hd]
   ·simp [ha,hb,hc]
  ·simp [ha,hb]
 ·simp [ha]
theorem c2_is {a b : Ci} {n : Nat} (hn : n ≤ 1000) (ha : Bd n a.many_) (hb : Bd n b.many_) : decide (Fu a b < 0) = Ry a b:=by
 obtain ⟨⟨a1,a2⟩,⟨a3,a4⟩,⟨a5,a6⟩⟩:=ha
 obtain ⟨⟨b1,b2⟩,⟨b3,b4⟩,⟨b5,b6⟩⟩:=hb
 have hc : Ef a.club_ b.club_ = cB a.club_ b.club_:=rfl
 unfold Fu
 rw [or4,Jw (by omega) (by omega),Jw (by omega) (by omega),Jw (by omega) (by omega),hc]
 apply Bool.eq_iff_iff.2
 rw [decide_eq_true_eq,Xf,Nm]
 have hext : a.many_ = b.many_ ↔ a.many_.a0_ = b.many_.a0_ ∧ a.many_.a1_ = b.many_.a1_ ∧ a.many_.a2_ = b.many_.a2_:=by
  constructor
  ·intro h; rw [h]; simp
  ·rintro ⟨h1,h2,h3⟩
   cases ha : a.many_; cases hb : b.many_
   rw [ha,hb] at h1 h2 h3
   simp only at h1 h2 h3
   rw [h1,h2,h3]
 rw [hext]
 split
 ·omega
 ·split
  ·omega
  ·split <;> omega
theorem DG (l : List Ci) (hl : l.length ≤ 12) : El l 0 (l.length : Int) = some (Km (fun a b=>decide (Fu a b < 0)) l):=by
 unfold El
 simp only [Ma]
 have hins : ∀ (k : List Ci → Option (List Ci)) (rp : List Ci) (x : Ci) (post : List Ci),((rp ++ x :: post).length : Int) = (l.length : Int) → (∀ y,y ∈ rp ∨ y = x ∨ y ∈ post → y ∈ (rp ++ x :: post)) →
   Cs 0 k (((rp.length : Int) - 0).toNat + 2) (rp.reverse ++ x :: post) (rp.length : Int) = k ((Mh (fun a b=>decide (Fu a b < 0)) x rp).reverse ++ post):=by
  intro k rp x post h1 _
  exact BX (fun x y k=>k (decide (Fu x y < 0))) (fun a b=>decide (Fu a b < 0)) k (Cs 0 k) (fun _ _ _=>rfl) rp x post _ (by omega) (by simp at h1; omega) fun y _ k'=>rfl
 cases l with
 | nil=>rfl
 | cons x l =>
  have hw : W (0 + 1) = (([x] : List Ci).length : Int):=rfl
  rw [hw]
  exact Wj (fun a b=>decide (Fu a b < 0)) (fun x=>some x) (fun k x i=>Cs 0 k ((i - 0).toNat + 2) x i) (Cx ((x :: l).length : Int) 0 fun x=>some x) ((x :: l).length : Int) (fun _ _ _=>rfl)
   (fun k rp x post h1 h2=>hins k rp x post h1 h2) l [x] _ (by simp only [List.length_cons,List.length_nil]; omega) (by simp only [List.length_cons,List.length_nil]; omega) (by simp only [List.length_cons,List.length_nil] at hl ⊢; omega)
theorem FI (l : List Ci) (hl : l.length ≤ 12) (h : ∀ x ∈ l,Bd 1000 x.many_) : Fh l = some (Km Ry l):=by
 rw [← Vw (lt:=fun a b=>decide (Fu a b < 0)) (lt':=Ry) l fun x hx y hy=>c2_is (Nat.le_refl _) (h x hx) (h y hy)]
 unfold Fh
 obtain ⟨r,hr⟩:=Option.isSome_iff_exists.1 (len_p ⟨l.length,by omega⟩)
 simp only at hr
 rw [hr]
 simp only [Option.bind_some]
 unfold Gi
 rw [show (4611686018427387904 : Nat) = 4611686018427387903 + 1 from rfl,Dn,Jw (by omega) (by omega),if_pos (decide_eq_true (by omega)),DG l hl]
 rfl
theorem cmpI (x y : Int) : Kt x y = if x < y then -1 else if y < x then 1 else 0:=by
 unfold Kt Me
 simp
theorem c1_is (a b : ByteArray) (m : List (ByteArray × Mny)) : ∃ r,Jb a b m = some r ∧ decide (r < 0) = Pw (Cr m a Zm) (Cr m b Zm):=by
 unfold Jb
 generalize hu : Cr m a (Cj.mk 0 0 0) = u
 generalize hv : Cr m b (Cj.mk 0 0 0) = v
 have key : ∃ r,Kk [v.a0_,v.a1_,v.a2_] [u.a0_,u.a1_,u.a2_] = some r ∧ decide (r < 0) = Pw u v:=by
  have n0 : nth [u.a0_,u.a1_,u.a2_] ((0 : Nat) : Int) = u.a0_:=rfl
  have n1 : nth [u.a0_,u.a1_,u.a2_] ((0 + 1 : Nat) : Int) = u.a1_:=rfl
  have n2 : nth [u.a0_,u.a1_,u.a2_] ((0 + 1 + 1 : Nat) : Int) = u.a2_:=rfl
  unfold Kk
  rw [Ma,Ez,if_neg (by simp),Ky (by rfl),n0,cmpI]
  by_cases h0 : v.a0_ < u.a0_
  ·refine ⟨-1,by simp [h0],?_⟩
   rw [(Nm).2 (.inl h0)]; rfl
  ·by_cases h0' : u.a0_ < v.a0_
   ·refine ⟨1,by simp [h0,h0'],?_⟩
    have : Pw u v = false:=Bool.eq_false_iff.2 fun k=>by rw [Nm] at k; omega
    rw [this]; rfl
   ·rw [if_neg h0,if_neg h0',if_neg (by simp),Ez,if_neg (by simp),Ky (by rfl),n1,cmpI]
    by_cases h1 : v.a1_ < u.a1_
    ·refine ⟨-1,by simp [h1],?_⟩
     rw [(Nm).2 (by omega)]; rfl
    ·by_cases h1' : u.a1_ < v.a1_
     ·refine ⟨1,by simp [h1,h1'],?_⟩
      have : Pw u v = false:=Bool.eq_false_iff.2 fun k=>by rw [Nm] at k; omega
      rw [this]; rfl
     ·rw [if_neg h1,if_neg h1',if_neg (by simp),Ez,if_neg (by simp),Ky (by rfl),n2,cmpI]
      by_cases h2 : v.a2_ < u.a2_
      ·refine ⟨-1,by simp [h2],?_⟩
       rw [(Nm).2 (by omega)]; rfl
      ·have hf : Pw u v = false:=Bool.eq_false_iff.2 fun k=>by rw [Nm] at k; omega
       by_cases h2' : u.a2_ < v.a2_
       ·exact ⟨1,by simp [h2,h2'],by rw [hf]; rfl⟩
       ·exact ⟨0,by rw [if_neg h2,if_neg h2',if_neg (by simp),Ez]; rfl,by rw [hf]; rfl⟩
 obtain ⟨r,e,h⟩:=key
 exact ⟨r,by rw [e]; rfl,h⟩
abbrev AI (m : List (ByteArray × Mny)) (a b : ByteArray) : Bool:=Pw (Cr m a Zm) (Cr m b Zm)
theorem BF (m : List (ByteArray × Mny)) (l : List ByteArray) (hl : l.length ≤ 19) : Ds l m = some (Km (AI m) l):=by
 have hs : Du l 0 (l.length : Int) m = some (Km (AI m) l):=by
  unfold Du
  simp only [Ma]
  have hins : ∀ (k : List ByteArray → Option (List ByteArray)) (rp : List ByteArray) (x : ByteArray) (post : List ByteArray),((rp ++ x :: post).length : Int) = (l.length : Int) → (∀ y,y ∈ rp ∨ y = x ∨ y ∈ post → y ∈ (rp ++ x :: post)) →
    Cm 0 m k (((rp.length : Int) - 0).toNat + 2) (rp.reverse ++ x :: post) (rp.length : Int) = k ((Mh (AI m) x rp).reverse ++ post):=by
   intro k rp x post h1 _
   exact BX (fun x y k=>Option.bind (Jb x y m) fun r=>k (decide (r < 0))) (AI m) k (Cm 0 m k) (fun _ _ _=>rfl) rp x post _ (by omega) (by simp at h1; omega) fun y hy k'=>by
    obtain ⟨r,e,h⟩:=c1_is x y m
    rw [e,Option.bind_some,h]
  cases l with
  | nil=>rfl
  | cons x l =>
   have hw : W (0 + 1) = (([x] : List ByteArray).length : Int):=rfl
   rw [hw]
   exact Wj (AI m) (fun x=>some x) (fun k x i=>Cm 0 m k ((i - 0).toNat + 2) x i) (Cu ((x :: l).length : Int) 0 m fun x=>some x) ((x :: l).length : Int) (fun _ _ _=>rfl)
    (fun k rp x post h1 h2=>hins k rp x post h1 h2) l [x] _ (by simp only [List.length_cons,List.length_nil]; omega) (by simp only [List.length_cons,List.length_nil]; omega) (by simp only [List.length_cons,List.length_nil] at hl ⊢; omega)
 unfold Ds Fm
 simp only [Ma]
 rw [Cy,if_neg (by simp; omega),hs]
 simp only [Option.bind_some]
 rw [Cz,if_neg (by simp; omega)]
 rfl
theorem Vx {α : Type} {lt lt' : α → α → Bool} : ∀ l rp : List α,l.Pairwise (fun a b=>lt b a = lt' b a) → (∀ x ∈ l,∀ y ∈ rp,lt x y = lt' x y) → Mn lt l rp = Mn lt' l rp
 | [],_,_,_=>rfl
 | x :: l,rp,h,h2=>by
  rw [List.pairwise_cons] at h
  show Mn lt l (Mh lt x rp) = Mn lt' l (Mh lt' x rp)
  rw [Tr x rp fun y hy=>h2 x (by simp) y hy]
  refine Vx l _ h.2 fun z hz y hy=>?_
  rcases (Qq lt' x y rp).1 hy with rfl | hy
  ·exact h.1 z hz
  ·exact h2 z (List.mem_cons_of_mem _ hz) y hy
theorem AJ {α : Type} {lt lt' : α → α → Bool} (l : List α) (h : l.Pairwise fun a b=>lt b a = lt' b a) : Km lt l = Km lt' l:=by
 unfold Km
 rw [Vx l [] h fun x _ y hy=>by cases hy]
theorem AK {α β : Type} (f : α → β) (lt : β → β → Bool) (x : α) : ∀ rp : List α,Mh lt (f x) (rp.map f) = (Mh (fun a b=>lt (f a) (f b)) x rp).map f
 | []=>rfl
 | y :: r=>by
  rw [List.map_cons,Mh,Mh]
  split
  ·rw [List.map_cons,AK f lt x r]
  ·rfl
theorem Ym {α β : Type} (f : α → β) (lt : β → β → Bool) : ∀ l rp : List α,Mn lt (l.map f) (rp.map f) = (Mn (fun a b=>lt (f a) (f b)) l rp).map f
 | [],_=>rfl
 | x :: l,rp=>by
  show Mn lt (l.map f) (Mh lt (f x) (rp.map f)) = (Mn _ l (Mh _ x rp)).map f
  rw [AK,Ym f lt l]
theorem DH {α β : Type} (f : α → β) (lt : β → β → Bool) (l : List α) : Km lt (l.map f) = (Km (fun a b=>lt (f a) (f b)) l).map f:=by
 unfold Km
 have:=Ym f lt l []
 rw [List.map_nil] at this
 rw [this,List.map_reverse]
theorem AL (M : List (ByteArray × Mny)) (ks K : List ByteArray) (hnd : ks.Nodup) (hK : K.Pairwise fun a b=>cB a b < 0) (hm : ∀ k,k ∈ ks ↔ k ∈ K) :
  Km Ry (ks.map fun k=>Ci.mk k (Cr M k Zm)) = (Km (AI M) K).map fun k=>Ci.mk k (Cr M k Zm):=by
 have h1 : Km (AI M) K = Km (fun a b=>Ry (Ci.mk a (Cr M a Zm)) (Ci.mk b (Cr M b Zm))) K:=by
  refine AJ K (hK.imp fun {a b} hab=>?_)
  show Pw (Cr M b Zm) (Cr M a Zm) = (Pw (Cr M b Zm) (Cr M a Zm) || (decide (Cr M b Zm = Cr M a Zm) && decide (cB b a < 0)))
  have hf:=Wl a b
  have : decide (cB b a < 0) = false:=decide_eq_false (by omega)
  rw [this]
  simp
 rw [h1,← DH (fun k=>Ci.mk k (Cr M k Zm)) Ry K]
 have hp : ∀ l : List ByteArray,l.Nodup → (l.map fun k=>Ci.mk k (Cr M k Zm)).Pairwise fun a b=>Ry b a = false → Ry a b = true:=fun l hl=>by
  rw [List.pairwise_map]
  refine hl.imp fun {a b} hab h=>?_
  exact FH (x:=Ci.mk a (Cr M a Zm)) (y:=Ci.mk b (Cr M b Zm)) hab h
 have hKn : K.Nodup:=hK.imp fun {a b} h e=>by rw [e,Pn] at h; omega
 refine EJ FG Xg _ _ (hp ks hnd) (Vh Xg _ (hp K hKn)) fun x=>?_
 rw [Ye,List.mem_map,List.mem_map]
 constructor
 ·rintro ⟨k,hk,rfl⟩; exact ⟨k,(hm k).1 hk,rfl⟩
 ·rintro ⟨k,hk,rfl⟩; exact ⟨k,(hm k).2 hk,rfl⟩
def itm (n : Int) : ByteArray:=⟨(Lib.itoa n).toArray⟩
theorem Vn {n : Int} (h0 : 0 ≤ n) (h1 : n ≤ 1000) : Kw n = some (itm n):=by
 unfold Kw
 rw [Ky (by simp; omega)]
 rfl
theorem Qu {n : Int} (h0 : 0 ≤ n) (h1 : n ≤ 1000) : (itm n).size ≤ 20:=by
 have key : ∀ k : Fin 1001,(itm (k.val : Int)).size ≤ 20:=by decide +kernel
 obtain ⟨k,rfl⟩:=Int.eq_ofNat_of_zero_le h0
 exact key ⟨k,by omega⟩
def Up (v : Mny) : ByteArray:=(((itm v.a0_ ++ Iz) ++ itm v.a1_) ++ Iz) ++ itm v.a2_
theorem FJ {v : Mny} (h : Bd 1000 v) : Lm [v.a0_,v.a1_,v.a2_] = some (Up v):=by
 obtain ⟨⟨a1,a2⟩,⟨a3,a4⟩,⟨a5,a6⟩⟩:=h
 have s1:=Qu a1 (by omega); have s2:=Qu a3 (by omega); have s3:=Qu a5 (by omega)
 have e : Lib.join ([itm v.a0_,itm v.a1_,itm v.a2_].map (·.data.toList)) Iz.data.toList = (Up v).data.toList:=by
  have e0 : Lib.join ([itm v.a0_,itm v.a1_,itm v.a2_].map (·.data.toList)) Iz.data.toList = (itm v.a0_).data.toList ++ (Iz.data.toList ++ ((itm v.a1_).data.toList ++ (Iz.data.toList ++ ((itm v.a2_).data.toList ++ [])))):=rfl
  rw [e0]
  unfold Up
  simp only [ByteArray.data_append,Array.toList_append,List.append_assoc,List.append_nil]
 have hsz : (Up v).data.toList.length ≤ 1000:=by
  have k1 : Iz.size = 1:=rfl
  have : (Up v).size ≤ 1000:=by
   unfold Up
   simp only [ByteArray.size_append]
   omega
  rw [Array.length_toList]
  exact this
 unfold Lm
 simp only [Ma,Hp,Vn a1 (show v.a0_ ≤ 1000 by omega),Vn a3 (show v.a1_ ≤ 1000 by omega),Vn a5 (show v.a2_ ≤ 1000 by omega),Option.bind_some,List.nil_append,List.cons_append]
 rw [Ky (by rfl),Ky (by rfl),Ky (by rfl)]
 unfold Pl
 rw [e,Ky (Bool.and_eq_true_iff.2 ⟨by rfl,decide_eq_true (by omega)⟩)]
 simp only [Option.bind_some,Option.some.injEq]
theorem Yn (j : List Dy → Option (List Dy × Int)) (M : List (ByteArray × Mny)) (hb : ∀ k,Bd 1000 (Cr M k Zm)) : ∀ (ys : List ByteArray) (i : Nat) (x : List Dy),x.length + ys.length ≤ 1000 →
  Hc j (ys.map fun k=>Ci.mk k (Cr M k Zm)) i x = j (x ++ ys.map fun k=>Dy.mk k (Up (Cr M k Zm)))
 | [],i,x,h=>by simp [Hc]
 | k :: ys,i,x,h=>by
  simp only [List.length_cons] at h
  have ih:=Yn j M hb ys (i + 1) (x ++ [Dy.mk k (Up (Cr M k Zm))]) (by simp; omega)
  rw [List.map_cons,Hc]
  obtain ⟨⟨a1,a2⟩,⟨a3,a4⟩,⟨a5,a6⟩⟩:=hb k
  have k1 : Iz.size = 1:=rfl
  have s1:=Qu a1 (by omega); have s2:=Qu a3 (by omega); have s3:=Qu a5 (by omega)
  simp only [Vn a1 (show (Cr M k Zm).a0_ ≤ 1000 by omega),Vn a3 (show (Cr M k Zm).a1_ ≤ 1000 by omega),Vn a5 (show (Cr M k Zm).a2_ ≤ 1000 by omega),Option.bind_some]
  rw [Ky (decide_eq_true (by omega)),Ky (decide_eq_true (by simp only [ByteArray.size_append]; omega)),Ky (decide_eq_true (by simp only [ByteArray.size_append]; omega)),Ky (decide_eq_true (by simp only [ByteArray.size_append]; omega)),Ky (by unfold Pj; exact decide_eq_true (by omega))]
  rw [show x ++ List.map (fun k=>Dy.mk k (Up (Cr M k Zm))) (k :: ys) = (x ++ [Dy.mk k (Up (Cr M k Zm))]) ++ ys.map fun k=>Dy.mk k (Up (Cr M k Zm)) by simp,← ih]
  rfl
theorem Vy (j : List Dy → Option (List Dy)) (M : List (ByteArray × Mny)) (hb : ∀ k,Bd 1000 (Cr M k Zm)) : ∀ (ys : List ByteArray) (i : Nat) (x : List Dy),x.length + ys.length ≤ 1000 →
  Fj M j ys i x = j (x ++ ys.map fun k=>Dy.mk k (Up (Cr M k Zm)))
 | [],i,x,h=>by simp [Fj]
 | k :: ys,i,x,h=>by
  simp only [List.length_cons] at h
  have ih:=Vy j M hb ys (i + 1) (x ++ [Dy.mk k (Up (Cr M k Zm))]) (by simp; omega)
  rw [Fj,FJ (hb k),Option.bind_some,Ky (by unfold Pj; exact decide_eq_true (by omega)),ih]
  simp
theorem DI {l : List An} (h : SR l) (hc : Jk l = some 0) : ∃ P,La l = some (P,0) ∧ Ju l = some P:=by
 have hlen:=h.len
 unfold La Ju
 rw [hc]
 simp only [Option.bind_some,Ma]
 rw [if_neg (by decide)]
 obtain ⟨X,N,M,e1,e2,⟨ks,hnd,rfl,hm,_,hb⟩,hN,hNl⟩:=Sp (fun x1=>Option.bind (Fh x1) fun r2=>Hc (fun x5=>some (x5,0)) r2 0 ([] : List Dy))
  (fun x1 x2=>Option.bind (Jl x1) fun r1=>Option.bind (Iu r1) fun r2=>Option.bind (Ds r2 x2) fun r3=>Fj x2 (fun x7=>some x7) r3 0 ([] : List Dy))
  l 0 0 [] [] [] 0 FC (by simp; omega) (by simp; omega) (by omega)
 simp only [List.length_nil,Nat.zero_add] at hNl
 have hclub : ∀ k ∈ ks,k ∈ k_A :: Rs:=fun k hk=>by
  rcases hN k ((hm k).1 hk) with hk | ⟨_,y,hy,rfl⟩
  ·cases hk
  ·exact h.club y hy
 have hks : ks.length ≤ 6:=Vj ks (k_A :: Rs) hnd hclub
 have hsort : Jl N = some (Jj N):=by
  unfold Jl
  rw [Ky (decide_eq_true (by omega))]
 have hsl : (Jj N).length = N.length:=by simp [Jj]
 have hmem : ∀ k,k ∈ ks ↔ k ∈ Qi N:=fun k=>by rw [hm,FB]
 have hup:=keys_up N
 have hKn : (Qi N).Nodup:=hup.imp fun {a b} h e=>by rw [e,Pn] at h; omega
 have hK : (Qi N).length ≤ 6:=Vj _ (k_A :: Rs) hKn fun k hk=>hclub k ((hmem k).2 hk)
 refine ⟨(Km (AI M) (Qi N)).map fun k=>Dy.mk k (Up (Cr M k Zm)),?_,?_⟩
 ·refine e1.trans ?_
  rw [FI _ (by rw [List.length_map]; omega) (fun x hx=>by obtain ⟨k,_,rfl⟩:=List.mem_map.1 hx; exact hb k),Option.bind_some,AL M ks (Qi N) hnd hup hmem,Yn _ M hb _ 0 [] (by rw [Tq]; simp; omega)]
  rfl
 ·refine e2.trans ?_
  rw [hsort,Option.bind_some,BC _ (by omega),Option.bind_some]
  show Option.bind (Ds (Qi N) M) _ = _
  rw [BF M _ (by omega),Option.bind_some,Vy _ M hb _ 0 [] (by rw [Tq]; simp; omega)]
  rfl
end Go.Proofs.YtocmlionnalaaaaGreatDoor
namespace Go.Proofs.YtocmlionnalaaaaGreatDoor
open Go
section
variable {L : List Int} (hL : Uj L)
include hL
theorem AM (r1 : Int × Int) (hr : r1.1 ≤ 5) (j : List Dj → Int → Option (List Dj × Int)) : ∀ (d m : Nat) (x : List Dj) (a i : Int),r1.1 ≤ i + d → d < m → 0 ≤ i → i = x.length → x.length ≤ 6 → 0 ≤ a → a + 9 * d ≤ 100000 →
  ∃ z b,Ht r1 L j m x a i = j z b ∧ a ≤ b ∧ b ≤ a + 9 * d ∧ z.length ≤ 6
 | d,0,x,a,i,_,h,_,_,_,_,_=>by omega
 | d,m + 1,x,a,i,h1,h2,h3,h4,h5,h6,h7=>by
  rw [Ht]
  by_cases hi : i < r1.1
  ·rw [if_pos (decide_eq_true hi)]
   obtain ⟨c,b1,e1,p1,q1,_⟩:=Rp hL (a:=a) h6 (by omega) [Ie,Of,Ya] (by simp) (by simp)
   rw [e1]; simp only [Option.bind_some]
   obtain ⟨n,b2,e2,p2,q2,_⟩:=Zc hL (a:=b1) (by omega) (by omega) [0,1,2,3,5] (by simp) (by simp)
   rw [e2]; simp only [Option.bind_some]
   obtain ⟨q,b3,e3,p3,q3,_⟩:=Zc hL (a:=b2) (by omega) (by omega) [1,2,3] (by simp) (by simp)
   rw [e3]; simp only [Option.bind_some]
   obtain ⟨f,b4,e4,p4,q4,_⟩:=Uk hL (a:=b3) (by omega) (by omega) 50 (by omega)
   rw [e4]; simp only [Option.bind_some,Ia]
   have fin : ∀ (k : ByteArray) (n de at' : Int),b4 ≤ at' → at' ≤ b4 + 5 → ∃ z b,Chk (Pj x.length) (Ht r1 L j m (x ++ [Dj.mk k (Ha.mk n de)]) at' (W (i + 1))) = j z b ∧ a ≤ b ∧ b ≤ a + 9 * d ∧ z.length ≤ 6:=by
    intro k n de at' g1 g2
    rw [Hl (by unfold Pj; exact decide_eq_true (by omega)),Jw (n:=i + 1) (by omega) (by omega)]
    obtain ⟨z,b,e,g3,g4,g5⟩:=AM r1 hr j (d - 1) m (x ++ [Dj.mk k (Ha.mk n de)]) at' (i + 1) (by omega) (by omega) (by omega) (by simp; omega) (by simp; omega) (by omega) (by omega)
    exact ⟨z,b,e,by omega,by omega,g5⟩
   cases f with
   | false=>rw [if_neg (by simp)]; exact fin _ _ _ _ (by omega) (by omega)
   | true =>
    rw [if_pos rfl]
    obtain ⟨c',b5,e5,p5,q5,_⟩:=Rp hL (a:=b4) (by omega) (by omega) [Ie,Co] (by simp) (by simp)
    rw [e5]; simp only [Option.bind_some]
    obtain ⟨n',b6,e6,p6,q6,_⟩:=AY hL (a:=b5) (by omega) (by omega) 0 1000000000 (by omega) (by omega) (by omega)
    rw [e6]; simp only [Option.bind_some]
    obtain ⟨d',b7,e7,p7,q7,_⟩:=AY hL (a:=b6) (by omega) (by omega) 1 1000000 (by omega) (by omega) (by omega)
    rw [e7]; simp only [Option.bind_some]
    exact fin _ _ _ _ (by omega) (by omega)
  ·rw [if_neg (by simpa using hi)]
   exact ⟨x,a,rfl,by omega,by omega,h5⟩
theorem DJ {a : Int} (h0 : 0 ≤ a) (h1 : a ≤ 1000) : Dr a 60 (fun l=>l.length ≤ 6) (Nj L a):=by
 unfold Nj
 obtain ⟨n,b,e,g1,g2,g3,g4⟩:=Zz hL (a:=a) h0 (by omega) 0 5 (by omega) (by omega) (by omega)
 rw [e]; simp only [Option.bind_some,Ia]
 obtain ⟨z,b',e',p,q,hz⟩:=AM hL (n,b) (by simp only; omega) (fun x1 x2=>some (x1,x2)) n.toNat ((n - 0).toNat + 2) [] b 0 (by simp only; omega) (by omega) (by omega) rfl (by simp) (by omega) (by omega)
 exact ⟨z,b',e',by omega,by omega,hz⟩
end
def Yo (y : Dj) : List Dj → Int → Int
 | [],n=>n
 | z :: ys,n=>Yo y ys (if Mx z.Points y.Points then W (n + 1) else n)
theorem rk1 (y : Dj) (j : Int → Option (List Int × Int)) : ∀ (ys : List Dj) (i : Nat) (n : Int),Io y j ys i n = j (Yo y ys n)
 | [],_,_=>rfl
 | z :: ys,i,n=>by
  rw [Io]
  simp only [Ma]
  unfold Yo
  cases h : Mx z.Points y.Points <;> simp [rk1 y j ys]
theorem rk2 (y : Dj) (j : Int → Option (List Int)) : ∀ (ys : List Dj) (i : Nat) (n : Int),Gv y j ys i n = j (Yo y ys n)
 | [],_,_=>rfl
 | z :: ys,i,n=>by
  have e : Mx z.Points y.Points = decide ((W (y.Points.Num * z.Points.Den)) < (W (z.Points.Num * y.Points.Den))):=rfl
  rw [Gv,← e]
  simp only [Ma]
  unfold Yo
  cases h : Mx z.Points y.Points <;> simp [rk2 y j ys]
theorem Yp (p : List Dj) (j : List Int → Option (List Int × Int)) (j' : List Int → Option (List Int)) : ∀ (ys : List Dj) (i i' : Nat) (x : List Int),x.length + ys.length ≤ 1000 →
  ∃ z,Ih p j ys i x = j z ∧ Gw p j' ys i' x = j' z
 | [],_,_,x,_=>⟨x,rfl,rfl⟩
 | y :: ys,i,i',x,h=>by
  simp only [List.length_cons] at h
  obtain ⟨z,e1,e2⟩:=Yp p j j' ys (i + 1) (i' + 1) (x ++ [Yo y p 1]) (by simp; omega)
  refine ⟨z,?_,?_⟩
  ·rw [Ih,Ma,rk1,Ky (by unfold Pj; exact decide_eq_true (by omega)),e1]
  ·rw [Gw,Ma,rk2,Ky (by unfold Pj; exact decide_eq_true (by omega)),e2]
theorem FK (j : Option (List Int × Int)) : ∀ (ys : List Dj) (i i' : Nat),(Ff 0 ys i' = 0 ∧ Ig j ys i = j) ∨ ∃ e,e ≠ 0 ∧ Ff 0 ys i' = e ∧ Ig j ys i = some ([],e)
 | [],_,_=>.inl ⟨rfl,rfl⟩
 | y :: ys,i,i'=>by
  have hw : ∀ n a b,Fd n a b = Ev n a b:=fun _ _ _=>rfl
  rw [Ff,Ig,hw,hw]
  by_cases h1 : y.Key = Co
  ·rw [if_pos (decide_eq_true h1),if_pos (decide_eq_true h1)]
   exact .inr ⟨5,by decide,rfl,rfl⟩
  ·have h1' : ¬ (decide (y.Key = Co) = true):=by simpa using h1
   rw [if_neg h1',if_neg h1']
   by_cases h2 : ((!(Ev y.Points.Den 1 1000000)) || (!(Ev y.Points.Num 0 1000000000))) = true
   ·rw [if_pos h2,if_pos h2]
    exact .inr ⟨1,by decide,rfl,rfl⟩
   ·rw [if_neg h2,if_neg h2]
    exact FK j ys (i + 1) (i' + 1)
theorem FL (g : List Dj) (hg : g.length ≤ 10) : ∃ R e,Og g = some (R,e) ∧ Gg g = e ∧ (e = 0 → Ll g = some R) ∧ (e ≠ 0 → R = []):=by
 unfold Og Gg
 rw [if_neg (by simp; omega),if_neg (by simp; omega)]
 simp only [Ma]
 obtain ⟨z,e1,e2⟩:=Yp g (fun x1=>some (x1,0)) (fun x1=>some x1) g 0 0 [] (by simp; omega)
 rcases FK (Ih g (fun x1=>some (x1,0)) g 0 []) g 0 0 with ⟨h1,h2⟩ | ⟨e,h0,h1,h2⟩
 ·refine ⟨z,0,h2.trans e1,h1,fun _=>?_,fun h=>absurd rfl h⟩
  unfold Ll
  rw [Ma]
  exact e2
 ·exact ⟨[],e,h2,h1,fun h=>absurd h h0,fun _=>rfl⟩
theorem Qb : Ng = some true:=by decide +kernel
theorem eq_intR (l : List Int) : ∀ (ys dn : List Int),l = dn ++ ys → Gx l (some true) ys dn.length = some true:=by
 intro ys
 induction ys with
 | nil=>intro dn _; rfl
 | cons y ys ih =>
  intro dn h
  rw [Gx]
  have hn : nth l (dn.length : Int) = y:=by unfold nth; rw [h]; simp
  rw [Hl (by rw [Ge,h]; simp; omega),hn,if_neg (by simp)]
  have:=ih (dn ++ [y]) (by rw [h]; simp)
  rwa [List.length_append,List.length_singleton] at this
theorem Tt (l : List Int) : Ke l l = some true:=by
 unfold Ke
 rw [if_neg (by simp)]
 exact eq_intR l l [] rfl
theorem FM (l : List Dy) : ∀ (ys dn : List Dy),l = dn ++ ys → Gl l (some true) ys dn.length = some true:=by
 intro ys
 induction ys with
 | nil=>intro dn _; rfl
 | cons y ys ih =>
  intro dn h
  rw [Gl]
  have hn : nth l (dn.length : Int) = y:=by unfold nth; rw [h]; simp
  rw [Hl (by rw [Ge,h]; simp; omega),hn,if_neg (by simp)]
  have:=ih (dn ++ [y]) (by rw [h]; simp)
  rwa [List.length_append,List.length_singleton] at this
theorem Sq (l : List Dy) : Jv l l = some true:=by
 unfold Jv
 rw [if_neg (by simp)]
 exact FM l l [] rfl
theorem plain_PointsRank (l : List Int) (hl : l.length ≤ 9223372036854775807) : Li l = some true:=by
 have hL : Uj l:=by unfold Uj; omega
 obtain ⟨g,a1,e1,p1,q1,hg⟩:=DJ hL (a:=0) (by omega) (by omega)
 obtain ⟨x,a2,e2,p2,q2,hx⟩:=Ze hL (a:=a1) (by omega) (by omega)
 obtain ⟨R,e,r1,r2,r3,r4⟩:=FL g (by omega)
 obtain ⟨se,s1,s2,_⟩:=DF x (by have:=hx.len; omega)
 unfold Li
 rw [e1]; simp only [Option.bind_some]
 rw [e2]; simp only [Option.bind_some]
 rw [r1,r2,s2]
 obtain ⟨P,hP,h0,h1⟩ : ∃ P,La x = some (P,se) ∧ (se = 0 → Ju x = some P) ∧ (se ≠ 0 → P = []):=by
  by_cases hs : se = 0
  ·obtain ⟨P,m1,m2⟩:=DI hx (by rw [s1,hs])
   exact ⟨P,by rw [m1,hs],fun _=>m2,fun h=>absurd hs h⟩
  ·refine ⟨[],?_,fun h=>absurd h hs,fun _=>rfl⟩
   unfold La
   rw [s1,Option.bind_some,if_pos (by simpa using hs)]
 simp only [Option.bind_some,Ia]
 rw [hP]
 simp only [Option.bind_some,decide_true,if_true]
 have fin : ∀ x1,x1 = R → Ke R x1 = some true:=fun x1 e=>by rw [e]; exact Tt R
 have fin2 : ∀ x2,x2 = P → Jv P x2 = some true:=fun x1 e=>by rw [e]; exact Sq P
 by_cases he : e = 0
 ·rw [if_pos (decide_eq_true he),r3 he]
  by_cases hs : se = 0
  ·simp only [Option.bind_some,h0 hs,Tt,Sq,Qb,decide_eq_true hs,if_true,Bool.and_self]
  ·simp only [Option.bind_some,fin2 [] (h1 hs).symm,Tt,Qb,decide_eq_false hs,Bool.false_eq_true,if_false,if_true,Bool.and_self]
 ·rw [if_neg (by simpa using he)]
  by_cases hs : se = 0
  ·simp only [Option.bind_some,h0 hs,fin [] (r4 he).symm,Sq,Qb,decide_eq_true hs,if_true,Bool.and_self]
  ·simp only [Option.bind_some,fin2 [] (h1 hs).symm,fin [] (r4 he).symm,Qb,decide_eq_false hs,Bool.false_eq_true,if_false,if_true,Bool.and_self]
end Go.Proofs.YtocmlionnalaaaaGreatDoor
