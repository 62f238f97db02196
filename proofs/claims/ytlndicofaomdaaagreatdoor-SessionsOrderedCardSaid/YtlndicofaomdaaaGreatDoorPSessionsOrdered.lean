/- The plain law of SessionsOrdered. No program stands here but its twins. -/
import Derived.Test.YtlndicofaomdaaaGreatDoorPStr
import Derived.Test.YtlndicofaomdaaaGreatDoorPOrder
namespace Go.Proofs.YtlndicofaomdaaaGreatDoor
open Go
def ltI (x y : An) : Bool:=decide (Kj x y < 0)
theorem KI (l : List An) (hl : l.length ≤ 12) : Hg l 0 (l.length : Int) = some (Md ltI l):=by
 unfold Hg
 simp only [Lk]
 have hins : ∀ (k : List An → Option (List An)) (rp : List An) (x : An) (post : List An),((rp ++ x :: post).length : Int) = (l.length : Int) → (∀ y,y ∈ rp ∨ y = x ∨ y ∈ post → y ∈ (rp ++ x :: post)) →
   Fm 0 k (((rp.length : Int) - 0).toNat + 2) (rp.reverse ++ x :: post) (rp.length : Int) = k ((Tp ltI x rp).reverse ++ post):=by
  intro k rp x post h1 _
  exact LI (fun x y k=>k (ltI x y)) ltI k (Fm 0 k) (fun _ _ _=>rfl) rp x post _ (by omega) (by simp at h1; omega) fun y _ k'=>rfl
 cases l with
 | nil=>rfl
 | cons x l =>
  have hw : W (0 + 1) = (([x] : List An).length : Int):=rfl
  rw [hw]
  exact ER ltI (fun x=>some x) (fun k x i=>Fm 0 k ((i - 0).toNat + 2) x i) (Fu ((x :: l).length : Int) 0 fun x=>some x) ((x :: l).length : Int) (fun _ _ _=>rfl)
   (fun k rp x post h1 h2=>hins k rp x post h1 h2) l [x] _ (by simp only [List.length_cons,List.length_nil]; omega) (by simp only [List.length_cons,List.length_nil]; omega) (by simp only [List.length_cons,List.length_nil] at hl ⊢; omega)
theorem MG (l : List An) (hl : l.length ≤ 12) : Ie l = some (Md ltI l):=by
 unfold Ie
 have h:=len13 ⟨l.length,by omega⟩
 obtain ⟨r,hr⟩:=Option.isSome_iff_exists.1 h
 simp only at hr
 rw [hr]
 simp only [Option.bind_some]
 unfold Ik
 rw [show (4611686018427387904 : Nat) = 4611686018427387903 + 1 from rfl,Ge,Km (by omega) (by omega),if_pos (decide_eq_true (by omega)),KI l hl]
 rfl
theorem imin3 (n : Int) : Zg n 3 ≤ 3:=by
 unfold Zg
 split <;> omega
section
variable {L : List Int} (hL : Xs L)
include hL
theorem FD (w : ByteArray) (j : List Ex → Int → Option (List Ex × Int)) : ∀ (ys : List An) (i : Nat) (x : List Ex) (a : Int),0 ≤ a → a + 2 * ys.length ≤ 100000000 → x.length + ys.length ≤ 10000 →
  ∃ z b,Jn L w j ys i x a = j (x ++ z) b ∧ a ≤ b ∧ b ≤ a + 2 * ys.length ∧ z.length ≤ ys.length ∧ ∀ c ∈ z,c.Who = w
 | [],i,x,a,_,_,_=>⟨[],a,by rw [List.append_nil]; rfl,by omega,by simp,by simp,fun _ h=>by cases h⟩
 | y :: ys,i,x,a,h1,h2,h3=>by
  simp only [List.length_cons] at h2 h3 ⊢
  rw [Jn]
  simp only [Lk]
  obtain ⟨f,b1,e1,g1,g2,_⟩:=Zf hL (a:=a) h1 (by omega) 2 (by omega)
  rw [e1]; simp only [Option.bind_some]
  cases hc : (f && decide (0 < y.Heats)) with
  | true =>
   rw [if_pos rfl]
   obtain ⟨h,b2,e2,g3,g4,_⟩:=GN hL (a:=b1) (by omega) (by omega) 1 (Zg y.Heats 3) (by omega) (by omega) (by have:=imin3 y.Heats; omega)
   rw [e2]; simp only [Option.bind_some]
   rw [Lb (by unfold Pa; simp; omega)]
   obtain ⟨z,b,r1,r2,r3,r4,r5⟩:=FD w j ys (i + 1) (x ++ [Ex.mk w y.Key h]) b2 (by omega) (by omega) (by simp; omega)
   refine ⟨Ex.mk w y.Key h :: z,b,by rw [r1]; simp,by omega,by omega,by simp; omega,fun c hc=>?_⟩
   rcases List.mem_cons.1 hc with rfl | hc
   ·rfl
   ·exact r5 c hc
  | false =>
   rw [if_neg (by simp)]
   obtain ⟨z,b,r1,r2,r3,r4,r5⟩:=FD w j ys (i + 1) x b1 (by omega) (by omega) (by omega)
   exact ⟨z,b,r1,by omega,by omega,by omega,r5⟩
theorem JC (items : List An) (hi : items.length ≤ 5) : ∀ (ws : List ByteArray) (i : Nat) (x : List Ex) (a : Int),0 ≤ a → a + 10 * ws.length ≤ 10000000 → x.length + 5 * ws.length ≤ 1000 →
  ∃ z b,Iw items L (fun x a=>some (x,a)) ws i x a = some (x ++ z,b) ∧ a ≤ b ∧ b ≤ a + 10 * ws.length ∧ z.length ≤ 5 * ws.length ∧ ∀ who,(z.filter fun c=>decide (c.Who = who)).length ≤ 5 * (ws.filter fun w=>decide (w = who)).length
 | [],i,x,a,_,_,_=>⟨[],a,by rw [List.append_nil]; rfl,by omega,by simp,by simp,fun _=>by simp⟩
 | w :: ws,i,x,a,h1,h2,h3=>by
  simp only [List.length_cons] at h2 h3 ⊢
  rw [Iw]
  unfold Lg
  rw [Lb (by simp; omega)]
  simp only [Option.bind_some,List.nil_append]
  rw [MG items (by omega)]
  simp only [Option.bind_some,Lk]
  have hil:=BK ltI items
  obtain ⟨z1,b1,e1,g1,g2,g3,g4⟩:=FD hL w (fun (x3 : List Ex) (x4 : Int)=>Iw items L (fun x a=>some (x,a)) ws (i + 1) x3 x4) (Md ltI items) 0 x a h1 (by omega) (by omega)
  rw [e1]
  obtain ⟨z2,b2,e2,g5,g6,g7,g8⟩:=JC items hi ws (i + 1) (x ++ z1) b1 (by omega) (by omega) (by rw [List.length_append]; omega)
  refine ⟨z1 ++ z2,b2,by rw [e2]; simp,by omega,by omega,by rw [List.length_append]; omega,fun who=>?_⟩
  have h5:=g8 who
  rw [List.filter_append,List.length_append,List.filter_cons]
  by_cases hw : w = who
  ·have h6:=List.length_filter_le (fun c : Ex=>decide (c.Who = who)) z1
   rw [if_pos (decide_eq_true hw),List.length_cons]
   omega
  ·have h6 : (z1.filter fun c=>decide (c.Who = who)) = []:=List.filter_eq_nil_iff.2 fun c hc=>by rw [g4 c hc]; simpa using hw
   rw [if_neg (by simpa using hw),h6,List.length_nil]
   omega
omit hL in
theorem MH (who : ByteArray) : (([Ng,Qv,Qw] : List ByteArray).filter fun w=>decide (w = who)).length ≤ 1:=by
 by_cases h1 : Ng = who
 ·subst h1; decide +kernel
 ·by_cases h2 : Qv = who
  ·subst h2; decide +kernel
  ·by_cases h3 : Qw = who
   ·subst h3; decide +kernel
   ·simp [h1,h2,h3]
theorem CH {a : Int} (h0 : 0 ≤ a) (h1 : a ≤ 1000000) (items : List An) (hi : items.length ≤ 5) : Dr a 30 (fun x=>x.length ≤ 15 ∧ ∀ who,(x.filter fun c=>decide (c.Who = who)).length ≤ 5) (Oi L a items):=by
 unfold Oi
 rw [Lk]
 obtain ⟨z,b,e,g1,g2,g3,g4⟩:=JC hL items hi [Ng,Qv,Qw] 0 [] a h0 (by simp; omega) (by simp)
 rw [List.nil_append] at e
 exact ⟨z,b,e,g1,by simp at g2; omega,by simp at g3; omega,fun who=>by have:=g4 who; have:=MH who; omega⟩
end
theorem Vt {α : Type} (p : α → Bool) (v : α) : ∀ (l : List α) (i : Nat),((l.set i v).filter p).length ≤ (l.filter p).length + 1
 | [],_=>by simp
 | x :: l,0=>by
  rw [List.set_cons_zero,List.filter_cons,List.filter_cons]
  split <;> split <;> first | omega | (simp only [List.length_cons]; omega)
 | x :: l,i + 1=>by
  have:=Vt p v l i
  rw [List.set_cons_succ,List.filter_cons,List.filter_cons]
  split <;> first | omega | (simp only [List.length_cons]; omega)
theorem MI {L : List Int} (hL : Xs L) {a : Int} (h0 : 0 ≤ a) (h1 : a ≤ 1000000) (items : List An) (hi : items.length ≤ 5) : Dr a 50 (fun x=>x.length ≤ 15 ∧ ∀ who,(x.filter fun c=>decide (c.Who = who)).length ≤ 12) (Rs L a items):=by
 unfold Rs
 obtain ⟨x,b,e,g1,g2,g3,g4⟩:=CH hL h0 h1 items hi
 rw [e]; simp only [Option.bind_some,Lk]
 by_cases hx : 0 < (x.length : Int)
 ·rw [if_pos (decide_eq_true hx)]
  obtain ⟨f,b1,e1,g5,g6,_⟩:=Zf hL (a:=b) (by omega) (by omega) 12 (by omega)
  rw [e1]; simp only [Option.bind_some]
  cases f with
  | false=>rw [if_neg (by simp)]; exact ⟨x,b1,rfl,by omega,by omega,g3,fun who=>by have:=g4 who; omega⟩
  | true =>
   rw [if_pos rfl]
   obtain ⟨n,b2,e2,g7,g8,g9⟩:=FC hL (a:=b1) (by omega) (by omega) (x.length : Int) (by omega)
   rw [e2]; simp only [Option.bind_some]
   rw [Lb (Hu.2 ⟨g9.1,by omega⟩)]
   obtain ⟨u1,b3,e3,g10,g11,_⟩:=AR hL (a:=b2) (by omega) (by omega) [(nth x n).Who,Ga,Ng] (by simp) (by simp)
   rw [e3]; simp only [Option.bind_some]
   obtain ⟨u2,b4,e4,g12,g13,_⟩:=AR hL (a:=b3) (by omega) (by omega) [(nth x n).Item,Ua] (by simp) (by simp)
   rw [e4]; simp only [Option.bind_some]
   obtain ⟨u3,b5,e5,g14,g15,_⟩:=BT hL (a:=b4) (by omega) (by omega) 1 3 (by omega) (by omega) (by omega)
   rw [e5]; simp only [Option.bind_some]
   refine ⟨_,b5,rfl,by omega,by omega,by simpa using g3,fun who=>?_⟩
   have s1:=Vt (fun c : Ex=>decide (c.Who = who)) (Ex.mk u1 ((nth x n).Item) ((nth x n).Heat)) x n.toNat
   have s2:=Vt (fun c : Ex=>decide (c.Who = who)) (Ex.mk u1 u2 ((nth x n).Heat)) (x.set n.toNat (Ex.mk u1 ((nth x n).Item) ((nth x n).Heat))) n.toNat
   have s3:=Vt (fun c : Ex=>decide (c.Who = who)) (Ex.mk u1 u2 u3) ((x.set n.toNat (Ex.mk u1 ((nth x n).Item) ((nth x n).Heat))).set n.toNat (Ex.mk u1 u2 ((nth x n).Heat))) n.toNat
   have:=g4 who
   omega
 ·rw [if_neg (by simpa using hx),if_neg (by simp)]
  exact ⟨x,b,rfl,by omega,by omega,g3,fun who=>by have:=g4 who; omega⟩
end Go.Proofs.YtlndicofaomdaaaGreatDoor
namespace Go.Proofs.YtlndicofaomdaaaGreatDoor
open Go

theorem BU (a b : List Fb) (t : Int) : Mu (a ++ b) t = Mu b (Mu a t):=by
 unfold Mu
 rcases List.eq_nil_or_concat b with rfl | ⟨pre,s,rfl⟩
 ·simp
 ·simp [← List.append_assoc]
def nt : List An → Int → Int
 | [],t=>t
 | y :: ys,t=>nt ys (Sl y y.Heats.toNat t + y.Break)
theorem DT (y : An) (k : Nat) (h t u : Int) : Mu (hs y (k + 1) h t) u = Sl y (k + 1) t:=by
 obtain ⟨pre,s,e1,e2⟩:=EQ y k h t
 rw [e1,← e2]
 simp [Mu]
theorem BV : ∀ (l : List An) (t : Int),(∀ x ∈ l,Mg x) → t ≤ nt l t ∧ Mu (tt l t) t ≤ nt l t
 | [],t,_=>⟨Int.le_refl _,Int.le_refl _⟩
 | y :: l,t,hg=>by
  have hy:=hg y List.mem_cons_self
  have hgood:=hy
  unfold Mg at hgood
  have hb:=Rj y hy y.Heats.toNat t
  obtain ⟨h1,h2⟩:=BV l (Sl y y.Heats.toNat t + y.Break) (fun x hx=>hg x (List.mem_cons_of_mem _ hx))
  obtain ⟨k,hk⟩ : ∃ k,y.Heats.toNat = k + 1:=⟨y.Heats.toNat - 1,by omega⟩
  simp only [nt,tt]
  refine ⟨by omega,?_⟩
  rw [BU,hk,DT,← hk]
  cases hl : tt l (Sl y y.Heats.toNat t + y.Break) with
  | nil=>simp only [Mu,List.getLast?_nil]; omega
  | cons a r =>
   have e : ∀ u v,Mu (a :: r) u = Mu (a :: r) v:=fun u v=>by
    unfold Mu
    cases hx : (a :: r).getLast? with
    | none=>simp at hx
    | some _=>rfl
   rw [hl] at h2
   rw [e _ (Sl y y.Heats.toNat t + y.Break)]
   exact h2
def ends (l : List An) (t : Int) (n : Nat) : Int:=Mu (tt (l.take n) t) t
end Go.Proofs.YtlndicofaomdaaaGreatDoor
namespace Go.Proofs.YtlndicofaomdaaaGreatDoor
open Go
end Go.Proofs.YtlndicofaomdaaaGreatDoor
namespace Go.Proofs.YtlndicofaomdaaaGreatDoor
open Go
end Go.Proofs.YtlndicofaomdaaaGreatDoor
namespace Go.Proofs.YtlndicofaomdaaaGreatDoor
open Go
section
variable {L : List Int} (hL : Xs L)
include hL
end
end Go.Proofs.YtlndicofaomdaaaGreatDoor
namespace Go.Proofs.YtlndicofaomdaaaGreatDoor
open Go
section
variable {L : List Int} (hL : Xs L)
include hL
end
theorem MJ : ∀ {l : List An} {y : An},y ∈ l → (l.Pairwise fun a b=>a.Key ≠ b.Key) → ∃ k,ixN l y.Key = some k ∧ l[k]? = some y
 | [],_,h,_=>by cases h
 | x :: xs,y,h,hd=>by
  rw [List.pairwise_cons] at hd
  rcases List.mem_cons.1 h with rfl | h
  ·exact ⟨0,by rw [ixN,if_pos rfl],rfl⟩
  ·obtain ⟨k,h1,h2⟩:=MJ h hd.2
   exact ⟨k + 1,by rw [ixN,if_neg (hd.1 y h),h1]; rfl,by simpa using h2⟩
theorem MK (items : List An) (hi : items.length ≤ 100) (l : List Ex) (hl : l.length ≤ 2000) (hk : ∀ c ∈ l,Oj c.Who = some true) (hcv : ∀ c ∈ l,∃ k y,CV items c k y) (ha : BM l) : ∀ (ys dn : List Ex),l = dn ++ ys → Ho items l (some 0) ys dn.length = some 0
 | [],_,_=>rfl
 | p :: ys,dn,e=>by
  have hlen : l.length = dn.length + (ys.length + 1):=by rw [e]; simp
  have hp : p ∈ l:=by rw [e]; simp
  obtain ⟨k,y,h⟩:=hcv p hp
  have hn : nth items (k : Int) = y:=Oc h.get
  have hkl:=BH h.ix
  have hix : Ez items p.Item = (k : Int):=by rw [Xa]; unfold ixI; rw [h.ix]
  have hin : Gy p.Heat 1 y.Heats = true:=by
   have:=h.h1; have:=h.h2
   unfold Gy
   simp only [Bool.and_eq_true,decide_eq_true_eq]
   omega
  have ih:=MK items hi l hl hk hcv ha ys (dn ++ [p]) (by rw [e]; simp)
  rw [List.length_append,List.length_singleton] at ih
  rw [Ho,hk p hp]
  simp only [Option.bind_some,Bool.not_true,Bool.false_eq_true,if_false,Lk]
  rw [hix,if_neg (by simp),Lb (Hu.2 ⟨by omega,by omega⟩),hn,hin,ih]
  simp only [Bool.not_true,Bool.false_eq_true,if_false]
  rcases List.eq_nil_or_concat dn with hd | ⟨d,q,hd⟩
  ·rw [hd]; simp
  ·rw [List.concat_eq_append] at hd
   have hdl : dn.length = d.length + 1:=by rw [hd]; simp
   have hnq : nth l (W ((dn.length : Int) - 1)) = q:=by
    rw [Km (by omega) (by omega),e,hd]
    have : d ++ [q] ++ p :: ys = d ++ q :: (p :: ys):=by simp
    rw [this]
    exact Xb _ _ _ (by simp)
   have hlt:=ha d q p ys (by rw [e,hd]; simp)
   rw [if_pos (decide_eq_true (by omega)),Lb (Hu.2 (by rw [Km (by omega) (by omega)]; omega)),hnq,Vx,decide_eq_false (show ¬ 0 ≤ cC q p by omega)]
   simp
theorem pass (items : List An) (hc : Jq items = some 0) (hi : items.length ≤ 100) (l : List Ex) (hl : l.length ≤ 2000) (hk : ∀ c ∈ l,Oj c.Who = some true) (hcv : ∀ c ∈ l,∃ k y,CV items c k y) (ha : BM l) : La items l = some 0:=by
 unfold La
 rw [hc]
 simp only [Option.bind_some,decide_true,Bool.not_true,Bool.false_eq_true,if_false]
 rw [if_neg (by simp; omega),Lk]
 exact MK items hi l hl hk hcv ha l [] rfl
theorem nt_le : ∀ (l : List An) (t : Int),(∀ x ∈ l,Mg x) → nt l t ≤ t + l.length * 500000000
 | [],t,_=>by simp [nt]
 | y :: ys,t,hg=>by
  have hy:=hg y (by simp)
  have h1:=Rj y hy y.Heats.toNat t
  have h2:=nt_le ys (Sl y y.Heats.toNat t + y.Break) fun x hx=>hg x (List.mem_cons_of_mem _ hx)
  unfold Mg at hy
  rw [nt]
  simp only [List.length_cons]
  push_cast
  omega
end Go.Proofs.YtlndicofaomdaaaGreatDoor
namespace Go.Proofs.YtlndicofaomdaaaGreatDoor
open Go
theorem ML (y : An) (hy : Mg y) : ∀ (k : Nat) (h t : Int) (s : Fb),s ∈ hs y k h t → t ≤ s.Time.From ∧ s.Time.From ≤ t + k * 7200000 ∧ t ≤ s.Time.To ∧ s.Time.To ≤ t + k * 7200000
 | 0,_,_,_,h=>by cases h
 | k + 1,h,t,s,hs'=>by
  unfold Mg at hy
  rcases List.mem_cons.1 hs' with rfl | h'
  ·simp only
   push_cast
   omega
  ·have:=ML y hy k _ _ s h'
   push_cast
   omega
theorem MM : ∀ (M : List An) (t : Int),(∀ x ∈ M,Mg x) → 0 ≤ t → t + 500000000 * (M.length : Int) ≤ 1000000000000 → InT (tt M t)
 | [],_,_,_,_=>fun _ h=>by cases h
 | y :: M,t,hg,h0,h1=>fun s hs'=>by
  have hy:=hg y (by simp)
  have hn:=Zc hy t
  simp only [List.length_cons] at h1
  push_cast at h1
  rw [tt] at hs'
  rcases List.mem_append.1 hs' with h | h
  ·have:=ML y hy _ _ _ s h
   unfold Mg at hy
   omega
  ·exact MM M (Up y t) (fun x hx=>hg x (by simp [hx])) (by omega) (by omega) s h
theorem HO (key : ByteArray) : ∀ {l : List An} {k : Nat} {y : An},ixN l key = some k → l[k]? = some y → y.Key = key
 | q :: l,k,y,h,h2=>by
  rw [ixN] at h
  split at h
  ·rename_i hq
   obtain rfl:=Option.some.inj h
   simp at h2
   rw [← h2]; exact hq
  ·obtain ⟨k',h3,h4⟩:=Option.map_eq_some_iff.1 h
   subst h4
   exact HO key h3 (by simpa using h2)
section
variable {items : List An} (hd : items.Pairwise fun a b=>a.Key ≠ b.Key)
include hd
theorem DU {o : List An} (hp : o.Perm items) : o.Pairwise fun a b=>a.Key ≠ b.Key:=(hp.pairwise_iff (fun {_ _} h e=>h e.symm)).2 hd
end
theorem GO {α β : Type} (f : α → β) {a b : List β} (h : a.Perm b) : ∀ l : List α,b = l.map f → ∃ p : List α,p.Perm l ∧ p.map f = a:=by
 induction h with
 | nil=>intro l e; exact ⟨[],by rw [List.map_eq_nil_iff.1 e.symm],rfl⟩
 | cons x _ ih =>
  intro l e
  cases l with
  | nil=>cases e
  | cons z l =>
   rw [List.map_cons,List.cons.injEq] at e
   obtain ⟨p,h1,h2⟩:=ih l e.2
   exact ⟨z :: p,h1.cons z,by rw [List.map_cons,h2,e.1]⟩
 | swap x y l' =>
  intro l e
  match l,e with
  | z :: u :: l,e =>
   simp only [List.map_cons,List.cons.injEq] at e
   exact ⟨u :: z :: l,List.Perm.swap ..,by simp only [List.map_cons]; rw [e.1,e.2.1,e.2.2]⟩
 | trans _ _ ih1 ih2 =>
  intro l e
  obtain ⟨p,h1,h2⟩:=ih2 l e
  obtain ⟨q,h3,h4⟩:=ih1 p h2.symm
  exact ⟨q,h3.trans h1,h4⟩
abbrev HP (c : List Ex) : List ByteArray:=nb (c.map (·.Who))
def BW (c : List Ex) (need : Int) (M : List An) : Int:=((HP c).map fun w=>Xm need none (Th (tt M 0) c w)).sum
theorem KJ (l : List An) (hg : ∀ x ∈ l,Mg x) (hl : l.length ≤ 8) : Qx l 0 = some (tt l 0,0) ∧ Mu (tt l 0) 0 ≤ 345686400000:=by
 have hlen:=Zs l 0 hg
 have h2:=(BV l 0 hg).2
 have h3:=nt_le l 0 hg
 refine ⟨?_,by omega⟩
 unfold Qx
 have hm : Rw 0 = true:=by decide
 rw [hm,Yx l 0 hg (by omega) (by omega) (by omega)]
 simp only [Option.bind_some,Bool.not_true,Bool.false_eq_true,if_false]
 rw [LE _ _ (by omega)]
 simp only [Option.bind_some]
 rw [if_neg (by simp; omega)]
structure Ud (x : List An) (c : List Ex) : Prop where
 good : ∀ y ∈ x,Mg y
 len : x.length ≤ 8
 keys : x.Pairwise fun a b=>a.Key ≠ b.Key
 cl : c.length ≤ 1000
 cv : ∀ z ∈ c,∃ k y,CV x z k y
 adj : BM c
 few : ∀ w,(c.filter fun z=>decide (z.Who = w)).length ≤ 12
theorem Ud.perm {x o : List An} {c : List Ex} (h : Ud x c) (hp : o.Perm x) : Ud o c:=by
 have hk:=DU h.keys hp
 refine ⟨fun y hy=>h.good y (hp.mem_iff.1 hy),by rw [hp.length_eq]; exact h.len,hk,h.cl,fun z hz=>?_,h.adj,h.few⟩
 obtain ⟨k,y,hcv⟩:=h.cv z hz
 have hy:=hp.mem_iff.2 (List.mem_of_getElem? hcv.get)
 obtain ⟨k',h1,h2⟩:=MJ hy hk
 rw [HO _ hcv.ix hcv.get] at h1
 exact ⟨k',y,h1,h2,hcv.h1,hcv.h2⟩
theorem Ud.cnt {x : List An} {c : List Ex} (h : Ud x c) (need : Int) : (((Zb (tt x 0) c (HP c)).filter fun z=>!decide (need ≤ z.Long)).length : Int) = BW c need x :=
 GD need _ c (MM x 0 h.good (by omega) (by have:=h.len; omega)) _
theorem Ud.allLen {x : List An} {c : List Ex} (h : Ud x c) : (Zb (tt x 0) c (HP c)).length < 1000000000:=by
 have hlen:=Zs x 0 h.good
 have:=h.len
 have:=h.cl
 have h1:=GB (tt x 0) c (by omega) (HP c)
 have h2:=LT (c.map (·.Who))
 rw [List.length_map] at h2
 have : (HP c).length ≤ c.length:=h2
 omega
theorem Ud.leaf {s : List An} {c : List Ex} (h : Ud s c) (need : Int) {now : List Int} (hp : now.Perm (Qt 0 s.length)) : (Tq s need (Ps s need none c (0,[])).1 (Ps s need none c (0,[])).2 now).1 = BW c need (now.map (nth s)) :=
 leaf_is h.good h.keys h.len h.cl (HE h.adj) (fun z hz=>by
  obtain ⟨k,y,hcv⟩:=h.cv z hz
  exact ⟨k,y,by rw [Xa]; unfold ixI; rw [hcv.ix],hcv.get,HO _ hcv.ix hcv.get,hcv.h1,hcv.h2⟩) hp
theorem Ud.best {s : List An} {c : List Ex} (h : Ud s c) (need : Int) : ∃ p,(Uq s c need).1 = p ∧ p.Perm (Qt 0 s.length) ∧ (p.map (nth s)).Perm s ∧ (Uq s c need).2.1 = BW c need (p.map (nth s)) ∧ ∀ o,o.Perm s → (Uq s c need).2.1 ≤ BW c need o:=by
 obtain ⟨p,h1,h2,h3⟩:=JB s c need h.len
 have e : (p.map (nth s)).Perm s:=by
  have:=h2.map (nth s)
  rw [Wt] at this
  exact this
 refine ⟨p,by rw [h1]; rfl,h2,e,by rw [h1,← h.leaf need h2]; rfl,fun o ho=>?_⟩
 obtain ⟨q,q1,q2⟩:=GO (nth s) ho (Qt 0 s.length) (Wt s).symm
 rw [← q2,← h.leaf need q1,h1]
 have:=(h3 q q1).1
 unfold lt2 at this
 unfold Vy
 simp only
 omega
section
variable {L : List Int} (hL : Xs L)
include hL
omit hL in
theorem MN (n : Int) (j : List Int → Option (List Int × Int)) : ∀ (k m : Nat) (i : Nat) (x : List Int),n = (i : Int) + k → k < m → x = Qt 0 i → n ≤ 1000 → Kp n j m x (i : Int) = j (Qt 0 (i + k))
 | 0,m + 1,i,x,h1,h2,h3,h4=>by
  rw [Kp,if_neg (by simp; omega),h3]
  rfl
 | k + 1,m + 1,i,x,h1,h2,h3,h4=>by
  rw [Kp,if_pos (by simp; omega),Lb (by unfold Pa; rw [h3,Qz]; simp; omega),Km (by omega) (by omega)]
  have:=MN n j k m (i + 1) (x ++ [(i : Int)]) (by omega) (by omega) (by rw [h3]; unfold Qt; rw [List.range'_concat]; simp) h4
  rw [show ((i + 1 : Nat) : Int) = (i : Int) + 1 by omega] at this
  rw [this]
  congr 2
  omega
theorem MO {n : Nat} (hn : n ≤ 100) : ∀ (m : Nat) (x3 : List Int) (a x5 : Int),0 ≤ a → a + x5 ≤ 100000000 → -1 ≤ x5 → x5 < (n : Int) → x5 < (m : Int) - 1 → x3.Perm (Qt 0 n) →
  ∃ z b,Kq L (fun x a=>some (x,a)) m x3 a x5 = some (z,b) ∧ a ≤ b ∧ b ≤ a + 100 ∧ b ≤ a + (x5 + 1) ∧ z.Perm (Qt 0 n)
 | 0,x3,a,x5,_,_,_,_,h,_=>by omega
 | m + 1,x3,a,x5,h0,h1,h2,h3,h4,h5=>by
  rw [Kq]
  have hl : x3.length = n:=by rw [h5.length_eq,Qz]
  by_cases h : 0 < x5
  ·rw [if_pos (decide_eq_true h),Km (n:=x5 + 1) (by omega) (by omega),Km (n:=x5 - 1) (by omega) (by omega)]
   obtain ⟨i,b,e,g1,g2,g3,g4⟩:=FC hL (a:=a) h0 (by omega) (x5 + 1) (by omega)
   rw [e]; simp only [Option.bind_some]
   have hi : inB i x3.length = true:=Hu.2 ⟨g3,by omega⟩
   have h5' : inB x5 x3.length = true:=Hu.2 ⟨by omega,by omega⟩
   rw [Lh hi,Lh h5',Lh h5',Lh (by rw [List.length_set]; exact hi)]
   have e1 : nth x3 i = x3[i.toNat]'(by omega):=by
    have:=(Ff hi).1
    rw [List.getElem?_eq_getElem (by omega)] at this
    exact (Option.some.inj this).symm
   have e2 : nth x3 x5 = x3[x5.toNat]'(by omega):=by
    have:=(Ff h5').1
    rw [List.getElem?_eq_getElem (by omega)] at this
    exact (Option.some.inj this).symm
   obtain ⟨z,c,w1,w2,w3,w4,w5⟩:=MO hn m ((x3.set x5.toNat (nth x3 i)).set i.toNat (nth x3 x5)) b (x5 - 1) (by omega) (by omega) (by omega) (by omega) (by omega) (by
    rw [e1,e2]
    exact (List.set_set_perm (by omega) (by omega)).trans h5)
   exact ⟨z,c,w1,by omega,by omega,by omega,w5⟩
  ·rw [if_neg (by simpa using h)]
   exact ⟨x3,a,rfl,by omega,by omega,by omega,h5⟩
theorem ordP_dr {a : Int} (h0 : 0 ≤ a) (h1 : a ≤ 900000) {n : Nat} (hn : n ≤ 50) : Dr a 50 (fun z=>z.Perm (Qt 0 n)) (Rv L a (n : Int)):=by
 unfold Rv
 simp only [Lk]
 have:=MN (n : Int) (fun x1=>Kq L (fun x3 x4=>some (x3,x4)) (((W ((n : Int) - 1)) - 0).toNat + 2) x1 a (W ((n : Int) - 1))) n (((n : Int) - 0).toNat + 2) 0 [] (by omega) (by omega) rfl (by omega)
 rw [Int.natCast_zero] at this
 rw [this,Nat.zero_add,Km (by omega) (by omega)]
 obtain ⟨z,b,w1,w2,w3,w4,w5⟩:=MO hL (n:=n) (by omega) ((((n : Int) - 1) - 0).toNat + 2) (Qt 0 n) a ((n : Int) - 1) h0 (by omega) (by omega) (by omega) (by omega) (List.Perm.refl _)
 exact ⟨z,b,w1,w2,by omega,w5⟩
end
end Go.Proofs.YtlndicofaomdaaaGreatDoor
namespace Go.Proofs.YtlndicofaomdaaaGreatDoor
open Go
def Us : List ByteArray → List ByteArray → Int
 | [],[]=>0
 | [],_ :: _=>-1
 | _ :: _,[]=>1
 | a :: l,b :: r=>if cB a b ≠ 0 then cB a b else Us l r
theorem cmp_l (s1 s2 : List ByteArray) : ∀ (ys d r : List ByteArray),s2 = d ++ r → s1.length = d.length + ys.length → Hf s2 (if decide ((s1.length : Int) < (s2.length : Int)) then some (-1) else some 0) ys d.length = some (Us ys r)
 | [],d,r,e,h=>by
  have hl : s2.length = d.length + r.length:=by rw [e]; simp
  simp only [List.length_nil] at h
  rw [Hf]
  cases r with
  | nil=>rw [if_neg (by simp only [List.length_nil] at hl; simp; omega)]; rfl
  | cons b r=>rw [if_pos (by simp only [List.length_cons] at hl; simp; omega)]; rfl
 | y :: ys,d,[],e,h=>by
  rw [Hf,if_pos (by rw [e]; simp)]
  rfl
 | y :: ys,d,b :: r,e,h=>by
  have hl : s2.length = d.length + (r.length + 1):=by rw [e]; simp
  have hn : nth s2 (d.length : Int) = b:=Oc (by rw [e]; simp)
  have ih:=cmp_l s1 s2 ys (d ++ [b]) r (by rw [e]; simp) (by simp at h ⊢; omega)
  rw [List.length_append,List.length_singleton] at ih
  rw [Hf,if_neg (by simp only [decide_eq_true_eq]; omega),Lb (Hu.2 (by omega)),hn,ET,ih,Us]
  by_cases hc : cB y b = 0
  ·rw [if_neg (by simp [hc]),if_neg (by simp [hc])]
  ·rw [if_pos (by simp [hc]),if_pos hc]
theorem cmpL_is (a b : List ByteArray) : Kc a b = some (Us a b):=by
 unfold Kc
 rw [Lk]
 exact cmp_l a b a [] b rfl (by simp)
theorem DV : ∀ a : List ByteArray,Us a a = 0
 | []=>rfl
 | a :: l=>by rw [Us,Tg,if_neg (by simp),DV l]
theorem BX : ∀ {a b c : List ByteArray},Us a b < 0 → Us b c < 0 → Us a c < 0
 | [],[],_,h,_=>absurd h (by simp [Us])
 | [],_ :: _,[],_,h=>absurd h (by simp [Us])
 | [],_ :: _,_ :: _,_,_=>by simp [Us]
 | _ :: _,[],_,h,_=>absurd h (by simp [Us])
 | _ :: _,_ :: _,[],_,h=>absurd h (by simp [Us])
 | x :: l,y :: r,z :: t,h1,h2=>by
  rw [Us] at h1 h2 ⊢
  by_cases e1 : cB x y = 0
  ·rw [if_neg (by simp [e1])] at h1
   obtain rfl:=Vr e1
   by_cases e2 : cB x z = 0
   ·rw [if_neg (by simp [e2])] at h2 ⊢
    exact BX h1 h2
   ·rw [if_pos e2] at h2 ⊢
    exact h2
  ·rw [if_pos e1] at h1
   by_cases e2 : cB y z = 0
   ·obtain rfl:=Vr e2
    rw [if_pos e1]; exact h1
   ·rw [if_pos e2] at h2
    have h3:=Un h1 h2
    rw [if_pos (by omega)]
    exact h3
abbrev Ut:=Int × Int × List ByteArray
def lt3 (v w : Ut) : Prop:=v.1 < w.1 ∨ v.1 = w.1 ∧ (v.2.1 < w.2.1 ∨ v.2.1 = w.2.1 ∧ Us v.2.2 w.2.2 < 0)
instance (v w : Ut) : Decidable (lt3 v w):=inferInstanceAs (Decidable (v.1 < w.1 ∨ v.1 = w.1 ∧ (v.2.1 < w.2.1 ∨ v.2.1 = w.2.1 ∧ Us v.2.2 w.2.2 < 0)))
theorem AS (v : Ut) : ¬ lt3 v v:=by unfold lt3; rw [DV]; omega
theorem Xe {u v w : Ut} (h1 : lt3 u v) (h2 : lt3 v w) : lt3 u w:=by
 unfold lt3 at *
 rcases h1 with h1 | ⟨a1,h1⟩ <;> rcases h2 with h2 | ⟨a2,h2⟩
 ·exact .inl (by omega)
 ·exact .inl (by omega)
 ·exact .inl (by omega)
 ·refine .inr ⟨by omega,?_⟩
  rcases h1 with h1 | ⟨b1,h1⟩ <;> rcases h2 with h2 | ⟨b2,h2⟩
  ·exact .inl (by omega)
  ·exact .inl (by omega)
  ·exact .inl (by omega)
  ·exact .inr ⟨by omega,BX h1 h2⟩
def JD (v a : Ut) : Ut:=if a.1 < 0 ∨ lt3 v a then v else a
def Sm (f : List An → Ut) : List (List An) → Ut → Ut
 | [],a=>a
 | h :: t,a=>Sm f t (JD (f h) a)
theorem DW (f : List An → Ut) : ∀ (p q : List (List An)) (a : Ut),Sm f (p ++ q) a = Sm f q (Sm f p a)
 | [],_,_=>rfl
 | x :: p,q,a=>by rw [List.cons_append,Sm,Sm,DW f p q]
theorem BY {f : List An → Ut} (hf : ∀ h,0 ≤ (f h).1) : ∀ (hs' : List (List An)) (a : Ut),0 ≤ a.1 →
  (Sm f hs' a = a ∨ (∃ h ∈ hs',Sm f hs' a = f h) ∧ lt3 (Sm f hs' a) a) ∧ ∀ h ∈ hs',¬ lt3 (f h) (Sm f hs' a)
 | [],a,_=>⟨.inl rfl,fun _ h=>by cases h⟩
 | h :: t,a,ha=>by
  rw [Sm,JD]
  by_cases hc : lt3 (f h) a
  ·rw [if_pos (.inr hc)]
   obtain ⟨h1,h2⟩:=BY hf t (f h) (hf h)
   have hh : ¬ lt3 (f h) (Sm f t (f h)):=by
    rcases h1 with h1 | ⟨_,h1⟩
    ·rw [h1]; exact AS _
    ·exact fun h'=>AS _ (Xe h1 h')
   refine ⟨.inr ?_,fun z hz=>?_⟩
   ·rcases h1 with h1 | ⟨⟨z,z1,z2⟩,h1⟩
    ·rw [h1]; exact ⟨⟨h,by simp,rfl⟩,hc⟩
    ·exact ⟨⟨z,by simp [z1],z2⟩,Xe h1 hc⟩
   ·rcases List.mem_cons.1 hz with rfl | hz
    ·exact hh
    ·exact h2 z hz
  ·rw [if_neg (fun e=>hc (e.resolve_left (by omega)))]
   obtain ⟨h1,h2⟩:=BY hf t a ha
   refine ⟨?_,fun z hz=>?_⟩
   ·rcases h1 with h1 | ⟨⟨z,z1,z2⟩,h1⟩
    ·exact .inl h1
    ·exact .inr ⟨⟨z,by simp [z1],z2⟩,h1⟩
   ·rcases List.mem_cons.1 hz with rfl | hz
    ·rcases h1 with h1 | ⟨_,h1⟩
     ·rw [h1]; exact hc
     ·exact fun h'=>hc (Xe h' h1)
    ·exact h2 z hz
theorem MP {f : List An → Ut} (hf : ∀ h,0 ≤ (f h).1) {hs' : List (List An)} (hne : hs' ≠ []) {a : Ut} (ha : a.1 < 0) : (∃ h ∈ hs',Sm f hs' a = f h) ∧ ∀ h ∈ hs',¬ lt3 (f h) (Sm f hs' a):=by
 cases hs' with
 | nil=>exact absurd rfl hne
 | cons h t =>
  rw [Sm,JD,if_pos (.inl ha)]
  obtain ⟨h1,h2⟩:=BY hf t (f h) (hf h)
  refine ⟨?_,fun z hz=>?_⟩
  ·rcases h1 with h1 | ⟨⟨z,z1,z2⟩,_⟩
   ·exact ⟨h,by simp,h1⟩
   ·exact ⟨z,by simp [z1],z2⟩
  ·rcases List.mem_cons.1 hz with rfl | hz
   ·rcases h1 with h1 | ⟨_,h1⟩
    ·rw [h1]; exact AS _
    ·exact fun h'=>AS _ (Xe h1 h')
   ·exact h2 z hz
section
variable (items : List An)
def AC : Nat → List An → List (List An)
 | 0,_=>[]
 | m + 1,g=>if g.length < items.length then items.flatMap fun x=>if Gl g x.Key < 0 then AC m (g ++ [x]) else [] else [g]
end
theorem at_neg (g : List An) (k : ByteArray) : Gl g k < 0 ↔ ∀ z ∈ g,z.Key ≠ k:=by
 have h:=BE g k
 constructor
 ·intro h1 z hz e
  rw [decide_eq_false (by omega)] at h
  have:=List.any_eq_false.1 h.symm z hz
  simp [e] at this
 ·intro h1
  have : (g.any fun x=>decide (x.Key = k)) = false:=List.any_eq_false.2 fun z hz=>by simpa using h1 z hz
  rw [this] at h
  have:=of_decide_eq_false h
  omega
section
variable {items : List An} (hd : items.Pairwise fun a b=>a.Key ≠ b.Key)
include hd
theorem BZ {g rest : List An} (hp : (g ++ rest).Perm items) {x : An} (hx : x ∈ items) : Gl g x.Key < 0 ↔ x ∈ rest:=by
 have hk:=DU hd hp
 rw [List.pairwise_append] at hk
 rw [at_neg]
 constructor
 ·intro h
  rcases List.mem_append.1 (hp.mem_iff.2 hx) with h1 | h1
  ·exact absurd rfl (h x h1)
  ·exact h1
 ·intro h z hz
  exact hk.2.2 z hz x h
omit hd in
theorem Zu {g rest : List An} (hp : (g ++ rest).Perm items) {x : An} (hx : x ∈ rest) : ∃ r,(g ++ [x] ++ r).Perm items ∧ r.length + 1 = rest.length ∧ (x :: r).Perm rest:=by
 obtain ⟨s,t,rfl⟩:=List.append_of_mem hx
 refine ⟨s ++ t,?_,by simp; omega,List.perm_middle.symm⟩
 refine List.Perm.trans ?_ hp
 rw [List.append_assoc]
 exact (List.perm_middle (a:=x) (l₁:=s) (l₂:=t)).symm.append_left g
theorem Zv : ∀ (m : Nat) (g rest h : List An),(g ++ rest).Perm items → rest.length < m → (h ∈ AC items m g ↔ ∃ q,h = g ++ q ∧ q.Perm rest)
 | 0,_,_,_,_,h=>absurd h (by omega)
 | m + 1,g,rest,h,hp,hm=>by
  have hl:=hp.length_eq
  rw [List.length_append] at hl
  rw [AC]
  by_cases h0 : rest = []
  ·rw [if_neg (by rw [h0] at hl; simp at hl; omega),List.mem_singleton,h0]
   constructor
   ·intro e; exact ⟨[],by rw [e,List.append_nil],List.Perm.refl _⟩
   ·rintro ⟨q,e,hq⟩; rw [List.perm_nil.1 hq,List.append_nil] at e; exact e
  ·rw [if_pos (by have:=List.length_pos_iff.2 h0; omega),List.mem_flatMap]
   constructor
   ·rintro ⟨x,hx,h1⟩
    split at h1
    ·rename_i h2
     obtain ⟨r,r1,r2,r3⟩:=Zu hp ((BZ hd hp hx).1 h2)
     obtain ⟨q,e,hq⟩:=(Zv m _ r h r1 (by omega)).1 h1
     exact ⟨x :: q,by rw [e]; simp,(hq.cons x).trans r3⟩
    ·cases h1
   ·rintro ⟨q,e,hq⟩
    cases q with
    | nil=>exact absurd (List.nil_perm.1 hq) h0
    | cons x q =>
     have hxr : x ∈ rest:=hq.mem_iff.1 (by simp)
     have hxi : x ∈ items:=hp.mem_iff.1 (by simp [hxr])
     obtain ⟨r,r1,r2,r3⟩:=Zu hp hxr
     refine ⟨x,hxi,?_⟩
     rw [if_pos ((BZ hd hp hxi).2 hxr),Zv m _ r h r1 (by omega)]
     exact ⟨q,by rw [e]; simp,(hq.trans r3.symm).cons_inv⟩
end
def HQ (c : List Ex) (need : Int) (h : List An) : Ut:=(BW c need h,Mu (tt h 0) 0,h.map (·.Key))
theorem GP (need : Int) : ∀ (l : List Fb) (p : Option Int),0 ≤ Xm need p l
 | [],p=>by cases p <;> exact Int.le_refl _
 | s :: r,p=>by
  have ih:=GP need r (some s.Time.To)
  have : 0 ≤ Xl need p s.Time.From:=by
   unfold Xl
   split
   ·split <;> omega
   ·omega
  rw [Xm]
  omega
theorem MQ (c : List Ex) (need : Int) (M : List An) : 0 ≤ BW c need M:=by
 unfold BW
 generalize HP c = ws
 induction ws with
 | nil=>simp
 | cons w ws ih =>
  have:=GP need (Th (tt M 0) c w) none
  simp only [List.map_cons,List.sum_cons]
  omega
theorem Ud.shortOf {h : List An} {c : List Ex} (ho : Ud h c) (need : Int) : ∃ r,Pe h c 0 need = some r ∧ (r.length : Int) = BW c need h:=by
 have hlen:=Zs h 0 ho.good
 have:=ho.len
 have:=ho.cl
 refine ⟨_,?_,ho.cnt need⟩
 unfold Pe
 rw [HH h (tt h 0) c (by omega) 0 (by omega) (fun w=>HF h ho.good (by omega) c 0 (by omega) (by omega) w),Option.bind_some]
 show Option.bind (Hz (Zb (tt h 0) c (HP c)) need) _ = _
 rw [HI _ ho.allLen]
 rfl
theorem MR (j : List ByteArray → Option Ut) : ∀ (ys : List An) (i : Nat) (x : List ByteArray),x.length + ys.length ≤ 1000 → Ia j ys i x = j (x ++ ys.map (·.Key))
 | [],_,x,_=>by rw [Ia]; simp
 | y :: ys,i,x,h=>by
  simp only [List.length_cons] at h
  rw [Ia,Lb (by unfold Pa; simp; omega),MR j ys (i + 1) _ (by simp; omega)]
  simp
theorem Ud.orderOf {items : List An} {c : List Ex} (hI : Ud items c) (need : Int) : ∀ (m : Nat) (g rest : List An) (a : Ut),(g ++ rest).Perm items → rest.length < m → Jh m g items c need a.1 a.2.1 a.2.2 = some (Sm (HQ c need) (AC items m g) a)
 | 0,_,_,_,_,h=>absurd h (by omega)
 | m + 1,g,rest,a,hp,hm=>by
  have hl:=hp.length_eq
  rw [List.length_append] at hl
  have hlen:=hI.len
  rw [Jh,Ob,AC]
  by_cases h0 : rest = []
  ·have hg : g.Perm items:=by rw [h0,List.append_nil] at hp; exact hp
   have hG:=hI.perm hg
   obtain ⟨r,r1,r2⟩:=hG.shortOf need
   rw [h0] at hl
   simp only [List.length_nil] at hl
   rw [if_neg (by simp only [decide_eq_true_eq]; omega),if_neg (by omega)]
   simp only [Lk]
   rw [MR _ g 0 [] (by simp; omega),List.nil_append,r1,LF g 0 hG.good (by omega) (by omega) (by omega)]
   simp only [Option.bind_some,Sm,r2,cmpL_is]
   unfold JD lt3 HQ
   simp only
   by_cases c1 : a.1 < 0
   ·simp [c1]
   ·by_cases c2 : BW c need g < a.1
    ·simp [c2]
    ·by_cases c3 : BW c need g = a.1
     ·by_cases c4 : Mu (tt g 0) 0 < a.2.1
      ·simp [c1,c3,c4]
      ·by_cases c5 : Mu (tt g 0) 0 = a.2.1
       ·by_cases c6 : Us (g.map (·.Key)) a.2.2 < 0
        ·simp [c1,c3,c5,c6]
        ·simp [c1,c3,c5,c6]
       ·simp [c1,c3,c4,c5]
     ·simp [c1,c2,c3]
  ·rw [if_pos (by have:=List.length_pos_iff.2 h0; simp only [decide_eq_true_eq]; omega),if_pos (by have:=List.length_pos_iff.2 h0; omega)]
   simp only [Lk]
   have loop : ∀ (ys : List An) (i : Nat) (a : Ut),(∀ y ∈ ys,y ∈ items) → It g (Jh m) items c need (fun x1 x2 x3=>some (x1,x2,x3)) ys i a.1 a.2.1 a.2.2 = some (Sm (HQ c need) (ys.flatMap fun x=>if Gl g x.Key < 0 then AC items m (g ++ [x]) else []) a):=by
    intro ys
    induction ys with
    | nil=>intro i a _; rfl
    | cons y ys ih =>
     intro i a hy
     rw [It,List.flatMap_cons,DW]
     simp only [Lk]
     have hyi:=hy y (by simp)
     by_cases hc : Gl g y.Key < 0
     ·obtain ⟨r,r1,r2,_⟩:=Zu hp ((BZ hI.keys hp hyi).1 hc)
      rw [if_pos (decide_eq_true hc),if_pos hc]
      unfold Lg
      rw [Lb (by simp; omega),Option.bind_some,List.nil_append,Lb (by unfold Pa; simp; omega),Ud.orderOf hI need m (g ++ [y]) r a r1 (by omega),Option.bind_some]
      exact ih (i + 1) _ fun z hz=>hy z (by simp [hz])
     ·rw [if_neg (by simpa using hc),if_neg hc]
      exact ih (i + 1) a fun z hz=>hy z (by simp [hz])
   exact loop items 0 a fun _ h=>h
theorem GQ {items : List An} (hg : ∀ x ∈ items,Mg x) : ∀ (ks fr : List Int) (a e : Int),InR items.length ks → 0 ≤ a → a + 500000000 * (ks.length : Int) ≤ 1000000000000 → (AK items ks fr a e).2 = Mu (tt (ks.map (nth items)) a) e
 | [],_,_,_,_,_,_=>rfl
 | k :: ks,fr,a,e,hk,h0,hb=>by
  obtain ⟨k0,k1⟩:=hk k (by simp)
  have hgk:=BS hg k0 k1
  have hg2:=hgk
  simp only [List.length_cons] at hb
  push_cast at hb
  unfold Mg at hg2
  obtain ⟨b1,b2,b3⟩:=Xc hgk (h:=(nth items k).Heats) (by omega) (by omega)
  have he:=IZ hgk a
  have hnx:=Zc hgk a
  have e1 : W (W (a + Hc (nth items k) (nth items k).Heats) + (nth items k).Long) = Sl (nth items k) (nth items k).Heats.toNat a:=by
   rw [b1,Km (n:=a + _) (by omega) (by omega),Km (by omega) (by omega),he]
  have e2 : W (W (W (a + Hc (nth items k) (nth items k).Heats) + (nth items k).Long) + (nth items k).Break) = Up (nth items k) a:=by
   rw [e1,Km (by unfold Up at hnx; omega) (by unfold Up at hnx; omega)]
   rfl
  obtain ⟨n,hn⟩ : ∃ n,(nth items k).Heats.toNat = n + 1:=⟨(nth items k).Heats.toNat - 1,by omega⟩
  rw [AK,e2,e1,GQ hg ks _ _ _ (fun z hz=>hk z (by simp [hz])) (by omega) (by omega),List.map_cons,tt,BU,hn,DT]
  unfold Up
  rw [hn]
theorem Ud.leaf2 {s : List An} {c : List Ex} (h : Ud s c) (need : Int) {now : List Int} (hp : now.Perm (Qt 0 s.length)) : Tq s need (Ps s need none c (0,[])).1 (Ps s need none c (0,[])).2 now = (BW c need (now.map (nth s)),Mu (tt (now.map (nth s)) 0) 0):=by
 have h1:=h.leaf need hp
 have h2 : (Tq s need (Ps s need none c (0,[])).1 (Ps s need none c (0,[])).2 now).2 = Mu (tt (now.map (nth s)) 0) 0 :=
  GQ h.good now _ 0 0 (fun k hk=>Vs _ k (hp.mem_iff.1 hk)) (by omega) (by have:=h.len; rw [hp.length_eq,Qz]; omega)
 rw [← h1,← h2]
theorem JE {s : List An} (hs : s.Pairwise fun a b=>cB a.Key b.Key < 0) : ∀ {p q : List Int},InR s.length p → InR s.length q → AL p q → Us ((p.map (nth s)).map (·.Key)) ((q.map (nth s)).map (·.Key)) < 0
 | [],_,_,_,h=>absurd h (by simp [AL])
 | _ :: _,[],_,_,h=>absurd h (by simp [AL])
 | a :: l,b :: r,hp,hq,h=>by
  rw [AL] at h
  simp only [List.map_cons]
  rw [Us]
  rcases h with h | ⟨rfl,h⟩
  ·obtain ⟨a0,a1⟩:=hp a (by simp)
   obtain ⟨b0,b1⟩:=hq b (by simp)
   obtain ⟨i,rfl⟩:=Int.eq_ofNat_of_zero_le a0
   obtain ⟨j,rfl⟩:=Int.eq_ofNat_of_zero_le b0
   have hi : i < s.length:=by omega
   have hj : j < s.length:=by omega
   rw [List.pairwise_iff_getElem] at hs
   have:=hs i j hi hj (by omega)
   rw [Oc (List.getElem?_eq_getElem hi),Oc (List.getElem?_eq_getElem hj),if_pos (by omega)]
   exact this
  ·rw [Tg,if_neg (by simp)]
   exact JE hs (fun k hk=>hp k (by simp [hk])) (fun k hk=>hq k (by simp [hk])) h
theorem HR (items : List An) (hd : items.Pairwise fun a b=>a.Key ≠ b.Key) : (Md ltK items).Pairwise fun a b=>cB a.Key b.Key < 0:=by
 have h:=JY (lt:=ltK) (fun x y z h1 h2=>by rw [HK] at *; exact decide_eq_true (Un (of_decide_eq_true h1) (of_decide_eq_true h2))) items (hd.imp_of_mem fun {a b} _ _ hne h=>by
  rw [HK] at *
  have h1:=of_decide_eq_false h
  have h2:=cB_flip a.Key b.Key
  have h3 : cB a.Key b.Key ≠ 0:=fun e=>hne (Vr e)
  exact decide_eq_true (by omega))
 exact h.imp_of_mem fun {a b} _ _ h=>by rw [HK] at h; exact of_decide_eq_true h
theorem Ud.same {x : List An} {c : List Ex} (hI : Ud x c) (need : Int) : Lo x c need = some ((Uq (Md ltK x) c need).1.map (fun k=>(nth (Md ltK x) k).Key),(Uq (Md ltK x) c need).2.1):=by
 have hS:=HA ltK x
 have hs:=hI.perm hS
 obtain ⟨p,b1,b2,b3⟩:=JB (Md ltK x) c need hs.len
 have hm : ∀ h,h ∈ AC x 16 [] ↔ h.Perm x:=fun h=>by
  have:=hI.len
  rw [Zv hI.keys 16 [] x h (List.Perm.refl _) (by omega)]
  constructor
  ·rintro ⟨q,rfl,hq⟩; exact hq
  ·intro hq; exact ⟨h,rfl,hq⟩
 obtain ⟨⟨h,h1,h2⟩,h3⟩:=MP (f:=HQ c need) (fun g=>MQ c need g) (hs':=AC x 16 []) (fun e=>by
  have:=(hm x).2 (List.Perm.refl _)
  rw [e] at this
  cases this) (a:=((-1,0,[]) : Ut)) (by decide)
 have hM : (p.map (nth (Md ltK x))).Perm x:=by
  have:=b2.map (nth (Md ltK x))
  rw [Wt] at this
  exact this.trans hS
 obtain ⟨q,q1,q2⟩:=GO (nth (Md ltK x)) (((hm h).1 h1).trans hS.symm) (Qt 0 (Md ltK x).length) (Wt _).symm
 have h4:=h3 _ ((hm _).2 hM)
 rw [h2,← q2] at h4
 have hqp : q = p:=by
  obtain ⟨g1,g2⟩:=b3 q q1
  rw [hs.leaf2 need q1,hs.leaf2 need b2] at g1 g2
  have hlex:=fun hh=>JE (HR x hI.keys) (fun k hk=>Vs _ k (b2.mem_iff.1 hk)) (fun k hk=>Vs _ k (q1.mem_iff.1 hk)) (p:=p) (q:=q) hh
  rcases g2 with g2 | g2 | g2
  ·exact g2
  ·exfalso
   apply h4
   have:=hlex g2
   unfold lt2 at g1
   unfold lt3 HQ
   simp only at g1 ⊢
   omega
  ·exfalso
   apply h4
   unfold lt2 at g2
   unfold lt3 HQ
   simp only at g2 ⊢
   omega
 unfold Lo
 have:=hI.len
 have hr:=hI.orderOf need 16 [] x (-1,0,[]) (List.Perm.refl _) (by omega)
 simp only at hr
 rw [hr,Option.bind_some,h2,← q2,hqp,b1]
 unfold Vy HQ
 simp only
 rw [hs.leaf2 need b2,List.map_map]
 rfl
end Go.Proofs.YtlndicofaomdaaaGreatDoor
namespace Go.Proofs.YtlndicofaomdaaaGreatDoor
open Go
section
variable {L : List Int} (hL : Xs L)
include hL
theorem Wu : ∀ (ys : List ByteArray) (i : Nat) (x1 : List An) (a : Int),0 ≤ a → a + 5 * ys.length ≤ 1000000000000 → x1.length + ys.length ≤ 1000 →
  ∃ x b,Jm L (fun x a=>some (x,a)) ys i x1 a = some (x,b) ∧ a ≤ b ∧ b ≤ a + 5 * ys.length ∧ x.length ≤ x1.length + ys.length
 | [],i,x1,a,_,_,_=>⟨x1,a,rfl,Int.le_refl _,by simp,by simp⟩
 | y :: ys,i,x1,a,h0,h1,h2=>by
  rw [Jm]
  simp only [List.length_cons] at h1 h2 ⊢
  obtain ⟨f,b,e,g1,g2,_⟩:=Zf hL h0 (by omega) 6 (by omega)
  rw [e]; simp only [Option.bind_some,Nn]
  cases f with
  | true =>
   rw [if_neg (by simp)]
   obtain ⟨x,c,e',g3,g4,g5⟩:=Wu ys (i + 1) x1 b (by omega) (by omega) (by omega)
   exact ⟨x,c,e',by omega,by omega,by omega⟩
  | false =>
   rw [if_pos (by simp)]
   obtain ⟨s,b2,e2,g3,g4,_⟩:=Ze hL (a:=b) (by omega) (by omega) [1,1,2,3] (by simp) (by simp)
   rw [e2]; simp only [Option.bind_some]
   obtain ⟨t,b3,e3,g5,g6,_⟩:=Ze hL (a:=b2) (by omega) (by omega) [50,100] (by simp) (by simp)
   rw [e3]; simp only [Option.bind_some]
   obtain ⟨u,b4,e4,g7,g8,_⟩:=Ze hL (a:=b3) (by omega) (by omega) [0,10,60] (by simp) (by simp)
   rw [e4]; simp only [Option.bind_some]
   obtain ⟨v,b5,e5,g9,g10,_⟩:=Ze hL (a:=b4) (by omega) (by omega) [0,20,50,200] (by simp) (by simp)
   rw [e5]; simp only [Option.bind_some]
   rw [Lh (by unfold Pa; simp; omega)]
   obtain ⟨x,c,e',g11,g12,g13⟩:=Wu ys (i + 1) (x1 ++ [An.mk y s t u v]) b5 (by omega) (by omega) (by simp; omega)
   simp only [List.length_append,List.length_singleton] at g13
   exact ⟨x,c,e',by omega,by omega,by omega⟩
theorem CI {a : Int} (h0 : 0 ≤ a) (h1 : a ≤ 100000000) (m : Int) (hm : 0 ≤ m) (hm' : m ≤ 5) : Dr a 25 (fun x=>x.length ≤ 5) (Og L a m):=by
 unfold Og
 rw [Lh (by rw [Nt]; simp; omega),Nn]
 have hlen : (cut ([Xv,Sk,Xw,Xx,Xy] : List ByteArray) 0 m).length ≤ 5:=by simp [cut]; omega
 obtain ⟨x,c,e',g7,g8,g9⟩:=Wu hL (cut ([Xv,Sk,Xw,Xx,Xy] : List ByteArray) 0 m) 0 [] a h0 (by omega) (by simp only [List.length_nil]; omega)
 exact ⟨x,c,e',g7,by omega,by simp only [List.length_nil] at g9; omega⟩
end
end Go.Proofs.YtlndicofaomdaaaGreatDoor
namespace Go.Proofs.YtlndicofaomdaaaGreatDoor
open Go
theorem MS {L : List Int} (hL : Xs L) {a : Int} (h0 : 0 ≤ a) (h1 : a ≤ 100000000) (m : Int) (hm : 0 ≤ m) (hm' : m ≤ 5) : Dr a 40 (fun x=>x.length ≤ 5) (Rr L a m):=by
 unfold Rr
 obtain ⟨x,b,e,g1,g2,g3⟩:=CI hL h0 h1 m hm hm'
 rw [e]; simp only [Option.bind_some,Nn]
 by_cases hx : 0 < (x.length : Int)
 ·rw [if_pos (decide_eq_true hx)]
  obtain ⟨f,b1,e1,g4,g5,_⟩:=Zf hL (a:=b) (by omega) (by omega) 15 (by omega)
  rw [e1]; simp only [Option.bind_some]
  cases f with
  | false=>rw [if_neg (by simp)]; exact ⟨x,b1,rfl,by omega,by omega,g3⟩
  | true =>
   rw [if_pos rfl]
   obtain ⟨i,b2,e2,g6,g7,g8⟩:=FC hL (a:=b1) (by omega) (by omega) (x.length : Int) (by omega)
   rw [e2]; simp only [Option.bind_some]
   rw [Lh (Hu.2 ⟨g8.1,by omega⟩)]
   obtain ⟨s,b3,e3,g9,g10,_⟩:=AR hL (a:=b2) (by omega) (by omega) [(nth x i).Key,Ga,Sk] (by simp) (by simp)
   rw [e3]; simp only [Option.bind_some]
   obtain ⟨t,b4,e4,g11,g12,_⟩:=BT hL (a:=b3) (by omega) (by omega) 1 60 (by omega) (by omega) (by omega)
   rw [e4]; simp only [Option.bind_some]
   obtain ⟨u,b5,e5,g13,g14,_⟩:=BT hL (a:=b4) (by omega) (by omega) 1 100 (by omega) (by omega) (by omega)
   rw [e5]; simp only [Option.bind_some]
   obtain ⟨v,b6,e6,g15,g16,_⟩:=BT hL (a:=b5) (by omega) (by omega) 0 100 (by omega) (by omega) (by omega)
   rw [e6]; simp only [Option.bind_some]
   obtain ⟨w,b7,e7,g17,g18,_⟩:=BT hL (a:=b6) (by omega) (by omega) 0 100 (by omega) (by omega) (by omega)
   rw [e7]; simp only [Option.bind_some]
   exact ⟨_,_,rfl,by omega,by omega,by simpa using g3⟩
 ·rw [if_neg (by simpa using hx),if_neg (by simp)]
  exact ⟨x,b,rfl,by omega,by omega,g3⟩
end Go.Proofs.YtlndicofaomdaaaGreatDoor
namespace Go.Proofs.YtlndicofaomdaaaGreatDoor
open Go
theorem timedO : Qj = some true:=by decide +kernel
theorem eqItemO (l : List An) : My l l = some true:=by
 unfold My
 rw [if_neg (by simp),Lk]
 exact eq_l l (Ka l (some true)) (fun _=>rfl) (fun _ _ _=>rfl) l [] rfl
theorem eqStrO (l : List ByteArray) : Ni l l = some true:=by
 unfold Ni
 rw [if_neg (by simp),Lk]
 exact eq_l l (Jl l (some true)) (fun _=>rfl) (fun _ _ _=>rfl) l [] rfl
theorem all_l (j : Int → Option Int) : ∀ (ys : List An) (i : Nat) (v : Int),(∀ y ∈ ys,Mg y) → 0 ≤ v → v + 500000000 * (ys.length : Int) ≤ 1000000000000 → ∃ w,Iq j ys i v = j w ∧ w ≤ v + 500000000 * (ys.length : Int)
 | [],_,v,_,_,_=>⟨v,rfl,by simp⟩
 | y :: ys,i,v,hg,h0,h1=>by
  have hy:=hg y (by simp)
  unfold Mg at hy
  simp only [List.length_cons] at h1 ⊢
  push_cast at h1 ⊢
  obtain ⟨m1,m2⟩:=BR (a:=y.Heats) (L:=y.Long) (by omega) (by omega) (by omega) (by omega)
  obtain ⟨m3,m4⟩:=BR (a:=y.Heats - 1) (L:=y.Gap) (by omega) (by omega) (by omega) (by omega)
  have m5 : y.Heats * y.Long ≤ 60 * 3600000:=Int.mul_le_mul (by omega) (by omega) (by omega) (by omega)
  have m6 : (y.Heats - 1) * y.Gap ≤ 60 * 3600000:=Int.mul_le_mul (by omega) (by omega) (by omega) (by omega)
  rw [Iq,Km (n:=y.Heats * y.Long) (by omega) (by omega),Km (n:=y.Heats - 1) (by omega) (by omega),Km (n:=(y.Heats - 1) * y.Gap) (by omega) (by omega),Km (n:=y.Heats * y.Long + (y.Heats - 1) * y.Gap) (by omega) (by omega),
   Km (n:=y.Heats * y.Long + (y.Heats - 1) * y.Gap + y.Break) (by omega) (by omega),Km (n:=v + _) (by omega) (by omega)]
  obtain ⟨w,w1,w2⟩:=all_l j ys (i + 1) (v + (y.Heats * y.Long + (y.Heats - 1) * y.Gap + y.Break)) (fun z hz=>hg z (by simp [hz])) (by omega) (by omega)
  exact ⟨w,w1,by omega⟩
theorem MT (x : List An) (c : List Ex) (need : Int) (hx : x.length ≤ 5) (hc : c.length ≤ 15) (hcn : ∀ w,(c.filter fun z=>decide (z.Who = w)).length ≤ 12) :
  ∃ o n f,Np x c need = some (o,n,f) ∧ Le x c need = some f ∧ (f = 0 → Lo x c need = some (o,n)) ∧ (f ≠ 0 → o = [] ∧ n = 0):=by
 obtain ⟨e,s1,s2,s3⟩:=LL x c
 by_cases he : e = 0
 ·subst he
  obtain ⟨hi,hg,hd,hcl,hcv,hadj⟩:=s3 rfl
  by_cases hn : 0 ≤ need ∧ need ≤ 3600000
  ·have hI : Ud x c:=⟨hg,by omega,hd,by omega,hcv,hadj,hcn⟩
   have hO:=MA (need:=need) s1 hg hcv (by omega) (by omega) hn.1 hn.2
   rw [if_neg (by have:=(KJ x hg (by omega)).2; omega)] at hO
   refine ⟨_,_,0,hO,?_,fun _=>hI.same need,fun h=>absurd rfl h⟩
   unfold Le Gr
   rw [s2,Option.bind_some,if_neg (by simp),if_neg (by simp only [decide_eq_true_eq]; omega),if_neg (by simp [hn]),Lk]
   obtain ⟨w,w1,w2⟩:=all_l (fun x1=>if decide (345686400000 < x1) then some 1 else some 0) x 0 0 hg (by omega) (by omega)
   rw [w1,if_neg (by simp only [decide_eq_true_eq]; omega)]
  ·have h1 : Gy need 0 3600000 = false:=by
    unfold Gy
    by_cases h : 0 ≤ need
    ·simp [h]; omega
    ·simp [h]
   have h2 : Gr need 0 3600000 = false:=h1
   refine ⟨[],0,1,?_,?_,(fun h=>by cases h),fun _=>⟨rfl,rfl⟩⟩
   ·unfold Np
    rw [s1,Option.bind_some,if_neg (by simp),if_neg (by simp only [decide_eq_true_eq]; omega)]
    simp only [Lk]
    rw [h1,if_pos (by simp)]
    rfl
   ·unfold Le
    rw [s2,Option.bind_some,if_neg (by simp),if_neg (by simp only [decide_eq_true_eq]; omega),h2,if_pos (by simp)]
 ·refine ⟨[],0,e,?_,?_,fun h=>absurd h he,fun _=>⟨rfl,rfl⟩⟩
  ·unfold Np
   rw [s1,Option.bind_some,if_pos (by simp [he])]
  ·unfold Le
   rw [s2,Option.bind_some,if_pos (by simp [he])]
theorem CA (items : List An) (o : List ByteArray) (j : List An → Option (List An × Int)) : ∀ (ys : List ByteArray) (i : Nat) (x : List An),Jo items o j ys i x = Iu items o j ys i x
 | [],_,_=>rfl
 | y :: ys,i,x=>by
  rw [Jo,Iu,Xa,IJ,CA items o j ys (i + 1)]
theorem MU (x : List An) (o : List ByteArray) : ∃ m f e,Mm x o = some (m,f) ∧ Kr x = some e ∧ (e = 0 → Ks x o = some (m,f)) ∧ (e ≠ 0 → m = [] ∧ f = e):=by
 obtain ⟨e,h1,h2,h3⟩:=FU x
 by_cases he : e = 0
 ·subst he
  obtain ⟨⟨m,f⟩,hr⟩:=KG (h3 rfl).1 h1 o
  refine ⟨m,f,0,hr,h2,fun _=>?_,fun h=>absurd rfl h⟩
  rw [← hr]
  unfold Mm Ks
  rw [h1,Option.bind_some,if_neg (c:=(!decide ((0 : Int) = 0)) = true) (by simp)]
  simp only [Lk,CA]
 ·refine ⟨[],e,e,?_,h2,fun h=>absurd h he,fun _=>⟨rfl,rfl⟩⟩
  unfold Mm
  rw [h1,Option.bind_some,if_pos (by simp [he])]
theorem JF (r : List An × Int) (j : List ByteArray → Option Bool) : ∀ (ys : List Int) (i : Nat) (x : List ByteArray),InR r.1.length ys → x.length + ys.length ≤ 1000 → Hj r j ys i x = j (x ++ ys.map fun k=>(nth r.1 k).Key)
 | [],_,x,_,_=>by rw [Hj]; simp
 | y :: ys,i,x,hk,h=>by
  obtain ⟨h0,h1⟩:=hk y (by simp)
  simp only [List.length_cons] at h
  rw [Hj,Lb (Hu.2 ⟨h0,h1⟩),Lb (by unfold Pa; simp; omega),JF r j ys (i + 1) _ (fun z hz=>hk z (by simp [hz])) (by simp; omega)]
  simp
theorem imin01 (n : Int) (h0 : 0 ≤ n) : 0 ≤ Zg 1 n ∧ Zg 1 n ≤ 1:=by
 unfold Zg
 split <;> omega
theorem MV {R : Type} {x : List An} {c : List Ex} {need : Int} {o : List ByteArray} {n f : Int} (h1 : f = 0 → Lo x c need = some (o,n)) (h2 : f ≠ 0 → o = [] ∧ n = 0) (G : List ByteArray → Int → Option R) :
  Ib G (fun j1=>if decide (f = 0) then Option.bind (Lo x c need) (fun r6=>j1 r6.1 r6.2) else j1 ([] : List ByteArray) 0) = G o n:=by
 rw [Lk]
 by_cases h : f = 0
 ·rw [if_pos (decide_eq_true h),h1 h]; rfl
 ·obtain ⟨rfl,rfl⟩:=h2 h
  rw [if_neg (by simpa using h)]
theorem MW {R : Type} {x : List An} {o : List ByteArray} {m : List An} {f e : Int} (h1 : e = 0 → Ks x o = some (m,f)) (h2 : e ≠ 0 → m = [] ∧ f = e) (G : Int → List An → Option R) :
  Ib G (fun j5=>if decide (e = 0) then Option.bind (Ks x o) (fun r14=>j5 r14.2 r14.1) else j5 e ([] : List An)) = G f m:=by
 rw [Lk]
 by_cases h : e = 0
 ·rw [if_pos (decide_eq_true h),h1 h]; rfl
 ·obtain ⟨rfl,rfl⟩:=h2 h
  rw [if_neg (by simpa using h)]
theorem MX (x : List An) (o : List ByteArray) : (Option.bind (Mm x o) (fun r12 =>
 Option.bind (Kr x) (fun r13 =>
 Ib (fun (x5 : Int) (x6 : List An) =>
 Ib (fun (c2 : Bool) =>
 Ib (fun (c3 : Bool) =>
 some c3) (fun j7 =>
 if c2 then Option.bind (Qj) (fun r16 =>
 j7 (c2 && r16)) else j7 (c2 && true))) (fun j6 =>
 if (decide (r12.2 = x5)) then Option.bind (My r12.1 x6) (fun r15 =>
 j6 ((decide (r12.2 = x5)) && r15)) else j6 ((decide (r12.2 = x5)) && true))) (fun j5 =>
 if decide (r13 = 0) then
 Option.bind (Ks x o) (fun r14 =>
 j5 r14.2 r14.1)
 else
 j5 r13 ([] : List An))))) = some true:=by
 obtain ⟨m,f,e,h1,h2,h3,h4⟩:=MU x o
 rw [h1,Option.bind_some,h2,Option.bind_some,MW h3 h4]
 simp only [Lk,decide_true,if_true,eqItemO,Option.bind_some,Bool.and_self,timedO]
theorem plain_SessionsOrdered (l : List Int) (hl : l.length ≤ 9223372036854775807) : Mn l = some true:=by
 have hL : Xs l:=by unfold Xs; omega
 obtain ⟨x,a1,e1,p1,q1,hx5⟩:=MS hL (a:=0) (by omega) (by omega) 4 (by omega) (by omega)
 obtain ⟨need,a2,e2,p2,q2,_⟩:=Ze hL (a:=a1) (by omega) (by omega) [0,50,100,200,(-1),3600001] (by simp) (by simp)
 obtain ⟨c,a3,e3,p3,q3,hc15,hcn⟩:=MI hL (a:=a2) (by omega) (by omega) x hx5
 obtain ⟨ord,a4,e4,p4,q4,hord⟩:=ordP_dr hL (a:=a3) (by omega) (by omega) (n:=x.length) (by omega)
 obtain ⟨fl,a5,e5,p5,q5,_⟩:=Zf hL (a:=a4) (by omega) (by omega) 6 (by omega)
 obtain ⟨o,n,f,o1,o2,o3,o4⟩:=MT x c need hx5 hc15 hcn
 have hol : ord.length = x.length:=by rw [hord.length_eq,Qz]
 have hir : InR x.length ord:=fun k hk=>Vs _ k (hord.mem_iff.1 hk)
 unfold Mn
 rw [e1]; simp only [Option.bind_some]
 rw [e2]; simp only [Option.bind_some]
 rw [e3]; simp only [Option.bind_some]
 rw [o1]; simp only [Option.bind_some]
 rw [o2]; simp only [Option.bind_some]
 rw [MV o3 o4]
 simp only [Lk,decide_true,Bool.not_true,Bool.false_eq_true,if_false,eqStrO,Option.bind_some,Bool.or_self]
 rw [e4]; simp only [Option.bind_some]
 rw [JF (x,a1) _ ord 0 [] hir (by simp; omega),List.nil_append,e5]
 simp only [Option.bind_some]
 cases fl with
 | false =>
  rw [if_neg (by simp)]
  exact MX x _
 | true =>
  obtain ⟨z,a6,e6,p6,q6,_⟩:=AR hL (a:=a5) (by omega) (by omega) [Sk,Ua] (by simp) (by simp)
  obtain ⟨k,a7,e7,p7,q7,k0,k1⟩:=GN hL (a:=a6) (by omega) (by omega) 0 1 (by omega) (by omega) (by omega)
  have hk:=imin01 k k0
  rw [if_pos rfl,e6]; simp only [Option.bind_some]
  rw [Lb (by unfold Pa; simp; omega),e7]; simp only [Option.bind_some]
  rw [Lb (Nt.2 (by simp; omega))]
  exact MX x _
end Go.Proofs.YtlndicofaomdaaaGreatDoor
