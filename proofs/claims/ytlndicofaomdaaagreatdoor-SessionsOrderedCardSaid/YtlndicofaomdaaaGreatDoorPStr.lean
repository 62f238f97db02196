/- The stream of choices goes on: each drawing gives something and moves the place by a little. Conditions: the place is not far. -/
import Derived.Test.YtlndicofaomdaaaGreatDoorPOrder
namespace Go.Proofs.YtlndicofaomdaaaGreatDoor
open Go
section
variable {α β R : Type}
def sel (P : α → Nat → Bool) (f : α → Nat → β) : List α → Nat → List β
 | [],_=>[]
 | y :: ys,i=>if P y i then f y i :: sel P f ys (i + 1) else sel P f ys (i + 1)
theorem DH (P : α → Bool) (f : α → β) : ∀ (l : List α) (i : Nat),sel (fun y _=>P y) (fun y _=>f y) l i = (l.filter P).map f
 | [],_=>rfl
 | y :: ys,i=>by
  unfold sel
  rw [DH P f ys (i + 1),List.filter_cons]
  split <;> rfl
theorem LQ (P : α → Nat → Bool) (f : α → Nat → β) (j : List β → Option R) (F : List α → Nat → List β → Option R) (h0 : ∀ i x,F [] i x = j x) (l : List α) (hl : l.length < 1073741824) (c0 : Nat) (hc0 : c0 + l.length < 1073741824)
  (h1 : ∀ (dn : List α) (y : α) (ys : List α) (x : List β),l = dn ++ y :: ys → x.length ≤ c0 + dn.length → F (y :: ys) dn.length x = if P y dn.length then Chk (Pa x.length) (F ys (dn.length + 1) (x ++ [f y dn.length])) else F ys (dn.length + 1) x) :
  ∀ (ys dn : List α) (x : List β),l = dn ++ ys → x.length ≤ c0 + dn.length → F ys dn.length x = j (x ++ sel P f ys dn.length)
 | [],dn,x,_,_=>by rw [h0]; simp [sel]
 | y :: ys,dn,x,h,hx=>by
  have hlen : l.length = dn.length + (ys.length + 1):=by rw [h]; simp
  have h' : l = (dn ++ [y]) ++ ys:=by rw [h]; simp
  have e : (dn ++ [y]).length = dn.length + 1:=by simp
  rw [h1 dn y ys x h hx]
  unfold sel
  cases hp : P y dn.length with
  | true =>
   simp only [if_true]
   rw [Lb (by unfold Pa; simp; omega)]
   have ih:=LQ P f j F h0 l hl c0 hc0 h1 ys (dn ++ [y]) (x ++ [f y dn.length]) h' (by rw [e]; simp; omega)
   rw [e] at ih
   rw [ih]
   simp
  | false =>
   simp only [Bool.false_eq_true,if_false]
   have ih:=LQ P f j F h0 l hl c0 hc0 h1 ys (dn ++ [y]) x h' (by rw [e]; omega)
   rw [e] at ih
   exact ih
theorem app_0 (P : α → Bool) (f : α → β) (j : List β → Option R) (F : List α → Nat → List β → Option R) (h0 : ∀ i x,F [] i x = j x) (l : List α) (hl : l.length < 1073741824)
  (h1 : ∀ (y : α) (ys : List α) (i : Nat) (x : List β),F (y :: ys) i x = if P y then Chk (Pa x.length) (F ys (i + 1) (x ++ [f y])) else F ys (i + 1) x) : F l 0 [] = j ((l.filter P).map f):=by
 have:=LQ (fun y _=>P y) (fun y _=>f y) j F h0 l hl 0 (by omega) (fun dn y ys x _ _=>h1 y ys dn.length x) l [] [] rfl (by simp)
 rw [List.length_nil,DH] at this
 exact this
theorem any_l (p : α → Bool) (F : List α → Nat → Int) (h0 : ∀ i,F [] i = -1) (h1 : ∀ y ys i,F (y :: ys) i = if p y then (i : Int) else F ys (i + 1)) (l : List α) : decide (0 ≤ F l 0) = l.any p:=by
 rcases GZ (fun y k=>k (p y)) p (-1) id F h0 h1 l 0 (fun _ _ _=>rfl) with ⟨pre,y,post,e,g1,g2,g3⟩ | ⟨g1,g2⟩
 ·rw [g3,e]
  have : (pre ++ y :: post).any p = true:=by simp [g2]
  rw [this]
  exact decide_eq_true (by show (0 : Int) ≤ ((0 + pre.length : Nat) : Int); omega)
 ·rw [g2]
  have : l.any p = false:=List.any_eq_false.2 fun x hx=>by simp [g1 x hx]
  rw [this]
  rfl
variable [DecidableEq α] [Inhabited α]
theorem eq_l (l : List α) (F : List α → Nat → Option Bool) (h0 : ∀ i,F [] i = some true) (h1 : ∀ y ys i,F (y :: ys) i = Chk (inB (i : Int) l.length) (if !decide (y = nth l (i : Int)) then some false else F ys (i + 1))) : ∀ (ys dn : List α),l = dn ++ ys → F ys dn.length = some true
 | [],dn,_=>h0 _
 | y :: ys,dn,h=>by
  have hlen : l.length = dn.length + (ys.length + 1):=by rw [h]; simp
  have hn : nth l (dn.length : Int) = y:=by rw [h]; exact Xb _ _ _ rfl
  have ih:=eq_l l F h0 h1 ys (dn ++ [y]) (by rw [h]; simp)
  rw [List.length_append] at ih
  rw [h1,Lb (Hu.2 (by omega)),hn]
  simpa using ih
end
section
variable {α R : Type} [Inhabited α]
end
end Go.Proofs.YtlndicofaomdaaaGreatDoor
namespace Go.Proofs.YtlndicofaomdaaaGreatDoor
open Go
theorem HD {a b : Ex} : cC a b < 0 ↔ cB a.Who b.Who < 0 ∨ (a.Who = b.Who ∧ (cB a.Item b.Item < 0 ∨ (a.Item = b.Item ∧ a.Heat < b.Heat))):=by
 unfold cC
 by_cases h1 : cB a.Who b.Who = 0
 ·have e1:=Vr h1
  rw [if_neg (by simpa using h1)]
  by_cases h2 : cB a.Item b.Item = 0
  ·have e2:=Vr h2
   rw [if_neg (by simpa using h2)]
   by_cases h3 : a.Heat < b.Heat
   ·rw [if_pos h3]
    exact ⟨fun _=>.inr ⟨e1,.inr ⟨e2,h3⟩⟩,fun _=>by decide⟩
   ·rw [if_neg h3]
    refine ⟨fun h=>?_,fun h=>?_⟩
    ·split at h <;> cases h
    ·rcases h with h | ⟨_,h | ⟨_,h⟩⟩ <;> omega
  ·rw [if_pos h2]
   refine ⟨fun h=>.inr ⟨e1,.inl h⟩,fun h=>?_⟩
   rcases h with h | ⟨_,h | ⟨h,_⟩⟩
   ·omega
   ·exact h
   ·exact absurd (cB_eq.2 h) h2
 ·rw [if_pos h1]
  refine ⟨.inl,fun h=>?_⟩
  rcases h with h | ⟨h,_⟩
  ·exact h
  ·exact absurd (cB_eq.2 h) h1
theorem LR {a b c : Ex} (h1 : cC a b < 0) (h2 : cC b c < 0) : cC a c < 0:=by
 rw [HD] at *
 rcases h1 with h1 | ⟨e1,h1⟩
 ·rcases h2 with h2 | ⟨e2,_⟩
  ·exact .inl (Un h1 h2)
  ·rw [← e2]; exact .inl h1
 ·rcases h2 with h2 | ⟨e2,h2⟩
  ·rw [e1]; exact .inl h2
  ·refine .inr ⟨e1.trans e2,?_⟩
   rcases h1 with h1 | ⟨i1,h1⟩
   ·rcases h2 with h2 | ⟨i2,_⟩
    ·exact .inl (Un h1 h2)
    ·rw [← i2]; exact .inl h1
   ·rcases h2 with h2 | ⟨i2,h2⟩
    ·rw [i1]; exact .inl h2
    ·exact .inr ⟨i1.trans i2,by omega⟩
theorem IS {l : List Ex} (h : BM l) : ∀ (ys dn : List Ex) (y : Ex),l = dn ++ y :: ys → ∀ z ∈ ys,cC y z < 0
 | [],_,_,_,z,hz=>by cases hz
 | x :: ys,dn,y,e,z,hz=>by
  have h1:=h dn y x ys e
  rcases List.mem_cons.1 hz with rfl | hz
  ·exact h1
  ·exact LR h1 (IS h ys (dn ++ [y]) x (by rw [e]; simp) z hz)
theorem HE {l : List Ex} (h : BM l) : l.Pairwise fun a b=>cC a b < 0:=by
 have : ∀ (ys dn : List Ex),l = dn ++ ys → ys.Pairwise fun a b=>cC a b < 0:=by
  intro ys
  induction ys with
  | nil=>intro _ _; exact List.Pairwise.nil
  | cons y ys ih =>
   intro dn e
   exact List.pairwise_cons.2 ⟨IS h ys dn y e,ih (dn ++ [y]) (by rw [e]; simp)⟩
 exact this l [] rfl
theorem len13 : ∀ n : Fin 13,(Ug (IntKind.wrap .u64 (n.val : Int))).isSome = true:=by decide +kernel
def Th (T : List Fb) (l : List Ex) (who : ByteArray) : List Fb:=T.filter fun s=>l.any fun c=>decide (Ex.mk who s.Item s.Heat = c)
theorem KD (l : List Ex) (v : Ex) : Om l v = l.any fun c=>decide (v = c) :=
 any_l (fun c : Ex=>decide (v = c)) (Jy v (-1)) (fun _=>rfl) (fun _ _ _=>rfl) l
theorem HF (items : List An) (hg : ∀ x ∈ items,Mg x) (hi : items.length ≤ 100) (l : List Ex) (t : Int) (h0 : 0 ≤ t) (h1 : t ≤ 345686400000) (who : ByteArray) : Mk items l who t = some (Th (tt items t) l who):=by
 unfold Mk
 rw [FW items t hg hi h0 h1]
 simp only [Option.bind_some]
 have hlen:=Zs items t hg
 have:=LJ (Fb.mk Ga 0 (Jj.mk 0 0)) (fun s=>Lf s l who) (Gi l who (-1)) (Gf l who fun (x1 : List Fb) (x2 : Int)=>Chk (Ql x2 (x1.length : Int) x1.length) (Chk (Ql 0 x2 (clr x1 x2 (x1.length : Int) (Fb.mk Ga 0 (Jj.mk 0 0))).length) (some (cut (clr x1 x2 (x1.length : Int) (Fb.mk Ga 0 (Jj.mk 0 0))) (0 : Int) x2))))
  (fun _=>rfl) (fun _ _ _=>rfl) (fun _ _ _ _=>rfl) (tt items t) (by omega)
 have e : Jk (tt items t) l who = some ((tt items t).filter fun b=>!Lf b l who):=this
 rw [e]
 simp only [Option.bind_some]
 congr 1
 unfold Th
 refine List.filter_congr fun s _=>?_
 unfold Lf
 rw [KD,Bool.not_not]
end Go.Proofs.YtlndicofaomdaaaGreatDoor
namespace Go.Proofs.YtlndicofaomdaaaGreatDoor
open Go
def pr (who : ByteArray) : Fb → List Fb → List Gn
 | _,[]=>[]
 | p,s :: r=>Gn.mk who p s (W (s.Time.From - p.Time.To)) :: pr who s r
def prs (who : ByteArray) : List Fb → List Gn
 | []=>[]
 | p :: r=>pr who p r
theorem LS (who : ByteArray) : ∀ (r : List Fb) (p : Fb),(pr who p r).length = r.length
 | [],_=>rfl
 | s :: r,p=>by simp [pr,LS who r s]
theorem IT (who : ByteArray) (l : List Fb) : (prs who l).length ≤ l.length:=by
 cases l with
 | nil=>simp [prs]
 | cons p r=>simp [prs,LS]
theorem pr_l {R : Type} (who : ByteArray) (r : List Fb) (hr : r.length ≤ 1000000) (j : List Gn → Option R) (F : Nat → List Gn → Int → Option R)
  (h : ∀ m x3 x4,F (m + 1) x3 x4 = if decide (x4 < (r.length : Int)) then Chk (inB (W (x4 - 1)) r.length) (Chk (inB x4 r.length) (Chk (inB x4 r.length) (Chk (inB (W (x4 - 1)) r.length) (Chk (Pa x3.length) (
   F m (x3 ++ [Gn.mk who (nth r (W (x4 - 1))) (nth r x4) (W ((nth r x4).Time.From - (nth r (W (x4 - 1))).Time.To))]) (W (x4 + 1))))))) else j x3) :
  ∀ (ys dn : List Fb) (p : Fb) (m : Nat) (x : List Gn),r = dn ++ p :: ys → ys.length < m → x.length + ys.length ≤ 100000000 → F m x ((dn.length + 1 : Nat) : Int) = j (x ++ pr who p ys)
 | [],dn,p,m,x,e,h1,_=>by
  obtain ⟨m,rfl⟩ : ∃ q,m = q + 1:=⟨m - 1,by omega⟩
  have hlen : r.length = dn.length + 1:=by rw [e]; simp
  rw [h,if_neg (by simp only [decide_eq_true_eq]; omega)]
  simp [pr]
 | y :: ys,dn,p,m,x,e,h1,h2=>by
  obtain ⟨m,rfl⟩ : ∃ q,m = q + 1:=⟨m - 1,by omega⟩
  simp only [List.length_cons] at h1 h2
  have hlen : r.length = dn.length + (ys.length + 1 + 1):=by rw [e]; simp
  have w1 : W (((dn.length + 1 : Nat) : Int) - 1) = (dn.length : Int):=by rw [Km (by omega) (by omega)]; omega
  have w2 : W (((dn.length + 1 : Nat) : Int) + 1) = (((dn ++ [p]).length + 1 : Nat) : Int):=by rw [Km (by omega) (by omega)]; simp
  have n1 : nth r (dn.length : Int) = p:=Oc (by rw [e]; simp)
  have n2 : nth r ((dn.length + 1 : Nat) : Int) = y:=Oc (by rw [e,List.getElem?_append_right (by omega)]; simp)
  rw [h,if_pos (by simp only [decide_eq_true_eq]; omega),w1,Lb (Hu.2 (by omega)),Lb (Hu.2 (by omega)),Lb (Hu.2 (by omega)),Lb (Hu.2 (by omega)),Lb (by unfold Pa; simp; omega),n1,n2,w2]
  rw [pr_l who r hr j F h ys (dn ++ [p]) y m _ (by rw [e]; simp) (by omega) (by simp; omega)]
  simp [pr]
theorem comp1 (s : List ByteArray) (hs : s.length ≤ 1000000) : ∀ (ys dn : List ByteArray) (p : ByteArray) (m : Nat),s = dn ++ p :: ys → ys.length < m → Hp s (some s) m ((dn.length + 1 : Nat) : Int) = some (dn ++ p :: nbF p ys)
 | [],dn,p,m,e,h1=>by
  obtain ⟨m,rfl⟩ : ∃ q,m = q + 1:=⟨m - 1,by omega⟩
  have hlen : s.length = dn.length + 1:=by rw [e]; simp
  rw [Hp,if_neg (by simp only [decide_eq_true_eq]; omega)]
  simp [nbF,← e]
 | y :: ys,dn,p,m,e,h1=>by
  obtain ⟨m,rfl⟩ : ∃ q,m = q + 1:=⟨m - 1,by omega⟩
  simp only [List.length_cons] at h1
  have hlen : s.length = dn.length + (ys.length + 1 + 1):=by rw [e]; simp
  have w1 : W (((dn.length + 1 : Nat) : Int) - 1) = (dn.length : Int):=by rw [Km (by omega) (by omega)]; omega
  have n1 : nth s (dn.length : Int) = p:=Oc (by rw [e]; simp)
  have n2 : nth s ((dn.length + 1 : Nat) : Int) = y:=Oc (by rw [e,List.getElem?_append_right (by omega)]; simp)
  rw [Hp,if_pos (by simp only [decide_eq_true_eq]; omega),w1,Lb (Hu.2 (by omega)),Lb (Hu.2 (by omega)),n1,n2]
  by_cases hy : y = p
  ·rw [if_pos (decide_eq_true hy),Lb (Nt.2 (by omega)),Lk]
   obtain ⟨mid,e1,e2⟩:=ES (dn.length + 1) s.length _ (Ir s ((dn.length + 1 : Nat) : Int) (fun (x2 : List ByteArray) (x3 : Int)=>Chk (Ql x3 (x2.length : Int) x2.length) (Chk (Ql 0 x3 (clr x2 x3 (x2.length : Int) Ga).length) (some (cut (clr x2 x3 (x2.length : Int) Ga) (0 : Int) x3)))))
    (fun _ _ _ _=>rfl) (by omega) ys (dn ++ [p]) [] y (((((s.length : Int).toNat - ((dn.length + 1 : Nat) : Int).toNat : Nat) : Int) - 1).toNat + 2) 1 (by simp only [Int.toNat_natCast]; omega) (by simp; omega) (by omega) (by simp)
   have e3 : dn ++ [p] ++ [] ++ y :: ys = s:=by rw [e]; simp
   have e4 : ((dn ++ [p]).length : Int) = ((dn.length + 1 : Nat) : Int):=by simp
   rw [e3,e4] at e1
   refine e1.trans ?_
   obtain ⟨c1,c2,c3⟩:=IP (dn ++ [p] ++ nbF y ys) mid Ga
   rw [Lb c1,Lb c2,c3]
   simp [nbF,hy]
  ·rw [if_neg (by simpa using hy)]
   have w2 : W (((dn.length + 1 : Nat) : Int) + 1) = (((dn ++ [p]).length + 1 : Nat) : Int):=by rw [Km (by omega) (by omega)]; simp
   rw [w2,comp1 s hs ys (dn ++ [p]) y m (by rw [e]; simp) (by omega)]
   simp [nbF,hy]
theorem HG (s : List ByteArray) (hs : s.length ≤ 1000000) : Kt s = some (nb s):=by
 unfold Kt
 cases s with
 | nil=>rfl
 | cons p ys =>
  by_cases h : ((p :: ys).length : Int) < 2
  ·have : ys = []:=List.eq_nil_of_length_eq_zero (by simp at h; omega)
   subst this
   rfl
  ·rw [if_neg (by simpa using h),Lk]
   have:=comp1 (p :: ys) hs ys [] p ((((p :: ys).length : Int) - 1).toNat + 2) rfl (by simp)
   simpa [nb] using this
def Zb (T : List Fb) (l : List Ex) (ws : List ByteArray) : List Gn:=ws.flatMap fun w=>prs w (Th T l w)
theorem GA (T : List Fb) (l : List Ex) (w : ByteArray) : (Th T l w).length ≤ T.length:=List.length_filter_le _ _
theorem prs_l {R : Type} (who : ByteArray) (r : List Fb) (hr : r.length ≤ 10000) (j : List Gn → Option R) (F : Nat → List Gn → Int → Option R)
  (h : ∀ m x3 x4,F (m + 1) x3 x4 = if decide (x4 < (r.length : Int)) then Chk (inB (W (x4 - 1)) r.length) (Chk (inB x4 r.length) (Chk (inB x4 r.length) (Chk (inB (W (x4 - 1)) r.length) (Chk (Pa x3.length) (
   F m (x3 ++ [Gn.mk who (nth r (W (x4 - 1))) (nth r x4) (W ((nth r x4).Time.From - (nth r (W (x4 - 1))).Time.To))]) (W (x4 + 1))))))) else j x3) (x : List Gn) (hx : x.length ≤ 90000000) :
  F (((r.length : Int) - 1).toNat + 2) x 1 = j (x ++ prs who r):=by
 cases r with
 | nil =>
  rw [h,if_neg (by simp)]
  simp [prs]
 | cons p ys =>
  have:=pr_l who (p :: ys) (by omega) j F h ys [] p ((((p :: ys).length : Int) - 1).toNat + 2) x rfl (by simp) (by simp only [List.length_cons] at hr; omega)
  simpa [prs] using this
theorem IU {α : Type} [DecidableEq α] : ∀ (l : List α) (p : α),(nbF p l).length ≤ l.length
 | [],_=>by simp [nbF]
 | y :: r,p=>by
  unfold nbF
  have:=IU r y
  split <;> simp <;> omega
theorem LT {α : Type} [DecidableEq α] (l : List α) : (nb l).length ≤ l.length:=by
 cases l with
 | nil=>simp [nb]
 | cons p r=>have:=IU r p; simp [nb]; omega
theorem DI (items : List An) (T : List Fb) (l : List Ex) (t : Int) (hT : T.length ≤ 10000) (hc : ∀ w,Mk items l w t = some (Th T l w)) : ∀ (ws : List ByteArray) (i : Nat) (x : List Gn),x.length + 10000 * ws.length ≤ 50000000 →
  Ht items l t (fun x=>some x) ws i x = some (x ++ Zb T l ws)
 | [],_,x,_=>by simp [Ht,Zb]
 | w :: ws,i,x,hx=>by
  simp only [List.length_cons] at hx
  have hm:=GA T l w
  have hp:=IT w (Th T l w)
  rw [Ht,hc]
  simp only [Option.bind_some,Lk]
  rw [prs_l w (Th T l w) (by omega) _ (Kd (Th T l w) w fun (x3 : List Gn)=>Ht items l t (fun x=>some x) ws (i + 1) x3) (fun _ _ _=>rfl) x (by omega)]
  rw [DI items T l t hT hc ws (i + 1) _ (by rw [List.length_append]; omega)]
  simp [Zb]
theorem HH (items : List An) (T : List Fb) (l : List Ex) (hl : l.length ≤ 2000) (t : Int) (hT : T.length ≤ 10000) (hc : ∀ w,Mk items l w t = some (Th T l w)) : Pd items l t = some (Zb T l (nb (l.map (·.Who)))):=by
 unfold Pd
 simp only [Lk]
 rw [app_0 (fun _ : Ex=>true) (·.Who) (fun x1=>Option.bind (Kt x1) fun r1=>Ht items l t (fun x2=>some x2) r1 0 []) (Jt fun x1=>Option.bind (Kt x1) fun r1=>Ht items l t (fun x2=>some x2) r1 0 []) (fun _ _=>rfl) l (by omega) (fun _ _ _ _=>by rw [Jt]; simp)]
 have hf : l.filter (fun _=>true) = l:=List.filter_eq_self.2 fun _ _=>rfl
 have hn:=LT (l.map (·.Who))
 rw [List.length_map] at hn
 rw [hf,HG _ (by rw [List.length_map]; omega)]
 simp only [Option.bind_some]
 rw [DI items T l t hT hc _ 0 [] (by simp; omega)]
 simp
theorem HI (r : List Gn) (hr : r.length < 1000000000) (need : Int) : Hz r need = some (r.filter fun x=>!decide (need ≤ x.Long)) :=
 LJ (Gn.mk Ga (Fb.mk Ga 0 (Jj.mk 0 0)) (Fb.mk Ga 0 (Jj.mk 0 0)) 0) (fun s=>decide (need ≤ s.Long)) (Gj need (-1)) (Gg need fun (x1 : List Gn) (x2 : Int)=>Chk (Ql x2 (x1.length : Int) x1.length) (Chk (Ql 0 x2 (clr x1 x2 (x1.length : Int) (Gn.mk Ga (Fb.mk Ga 0 (Jj.mk 0 0)) (Fb.mk Ga 0 (Jj.mk 0 0)) 0)).length) (some (cut (clr x1 x2 (x1.length : Int) (Gn.mk Ga (Fb.mk Ga 0 (Jj.mk 0 0)) (Fb.mk Ga 0 (Jj.mk 0 0)) 0)) (0 : Int) x2))))
  (fun _=>rfl) (fun _ _ _=>rfl) (fun _ _ _ _=>rfl) r hr
theorem GB (T : List Fb) (l : List Ex) (hT : T.length ≤ 10000) : ∀ ws : List ByteArray,(Zb T l ws).length ≤ 10000 * ws.length
 | []=>by simp [Zb]
 | w :: ws=>by
  have ih:=GB T l hT ws
  have hm:=GA T l w
  have hp:=IT w (Th T l w)
  unfold Zb at ih ⊢
  rw [List.flatMap_cons,List.length_append,List.length_cons]
  omega
end Go.Proofs.YtlndicofaomdaaaGreatDoor
namespace Go.Proofs.YtlndicofaomdaaaGreatDoor
open Go
def EX (l : List Ex) (w key : ByteArray) (h : Int) : Bool:=l.any fun c=>decide (Ex.mk w key h = c)
def BP (y : An) (t h : Int) : Fb:=Fb.mk y.Key h (Jj.mk (t + (h - 1) * (y.Long + y.Gap)) (t + (h - 1) * (y.Long + y.Gap) + y.Long))
def hts : Nat → Int → List Int
 | 0,_=>[]
 | k + 1,h=>h :: hts k (h + 1)
theorem LU (h X : Int) : (h + 1 - 1) * X = (h - 1) * X + X:=by rw [show h + 1 - 1 = (h - 1) + 1 by omega,Int.add_mul,Int.one_mul]
theorem GC (y : An) (t : Int) : ∀ (k : Nat) (h : Int),hs y k h (t + (h - 1) * (y.Long + y.Gap)) = (hts k h).map (BP y t)
 | 0,_=>rfl
 | k + 1,h=>by
  have ih:=GC y t k (h + 1)
  rw [LU] at ih
  rw [hs,hts,List.map_cons,← ih]
  congr 2
  omega
def Qs (l : List Ex) (w : ByteArray) (y : An) : List Int:=(hts y.Heats.toNat 1).filter (EX l w y.Key)
theorem mine_hs (l : List Ex) (w : ByteArray) (y : An) (t : Int) : Th (hs y y.Heats.toNat 1 t) l w = (Qs l w y).map (BP y t):=by
 have h:=GC y t y.Heats.toNat 1
 rw [show t + (1 - 1) * (y.Long + y.Gap) = t by simp] at h
 rw [h]
 unfold Th Qs
 rw [List.filter_map]
 rfl
def Up (y : An) (t : Int) : Int:=Sl y y.Heats.toNat t + y.Break
def blk (l : List Ex) (w : ByteArray) : List An → Int → List Fb
 | [],_=>[]
 | y :: ys,t=>(Qs l w y).map (BP y t) ++ blk l w ys (Up y t)
theorem IV (l : List Ex) (w : ByteArray) : ∀ (M : List An) (t : Int),Th (tt M t) l w = blk l w M t
 | [],_=>rfl
 | y :: ys,t=>by
  have ih:=IV l w ys (Up y t)
  have e : Th (tt (y :: ys) t) l w = Th (hs y y.Heats.toNat 1 t) l w ++ Th (tt ys (Up y t)) l w:=by
   unfold Th
   rw [tt,List.filter_append]
   rfl
  rw [e,mine_hs,ih,blk]
def Xl (need : Int) (p : Option Int) (f : Int) : Int:=match p with
 | some e=>if f - e < need then 1 else 0
 | none=>0
def Xm (need : Int) : Option Int → List Fb → Int
 | _,[]=>0
 | p,s :: r=>Xl need p s.Time.From + Xm need (some s.Time.To) r
def InT (l : List Fb) : Prop:=∀ s ∈ l,0 ≤ s.Time.From ∧ s.Time.From ≤ 1000000000000 ∧ 0 ≤ s.Time.To ∧ s.Time.To ≤ 1000000000000
theorem LV (need : Int) (w : ByteArray) : ∀ (r : List Fb) (p : Fb),InT (p :: r) → (((pr w p r).filter fun x=>!decide (need ≤ x.Long)).length : Int) = Xm need (some p.Time.To) r
 | [],_,_=>rfl
 | s :: r,p,h=>by
  have h1:=h p (by simp)
  have h2:=h s (by simp)
  have ih:=LV need w r s (fun z hz=>h z (by simp [hz]))
  rw [pr,Km (by omega) (by omega),Xm,Xl,List.filter_cons]
  by_cases hc : need ≤ s.Time.From - p.Time.To
  ·rw [if_neg (by simp [hc]),if_neg (by omega),ih]; omega
  ·rw [if_pos (by simp [hc]),if_pos (by omega),List.length_cons]
   push_cast
   rw [ih]; omega
theorem prs_cnt (need : Int) (w : ByteArray) (l : List Fb) (h : InT l) : (((prs w l).filter fun x=>!decide (need ≤ x.Long)).length : Int) = Xm need none l:=by
 cases l with
 | nil=>rfl
 | cons p r =>
  rw [prs,LV need w r p h,Xm,Xl]
  omega
def cI (need L G : Int) : List Int → Int
 | []=>0
 | [_]=>0
 | a :: b :: r=>(if (b - a - 1) * L + (b - a) * G < need then 1 else 0) + cI need L G (b :: r)
def lst : Int → List Int → Int
 | h,[]=>h
 | _,h :: r=>lst h r
theorem DJ (need : Int) (y : An) (t : Int) (rest : List Fb) : ∀ (r : List Int) (h : Int) (p : Option Int),
  Xm need p ((h :: r).map (BP y t) ++ rest) = Xl need p (t + (h - 1) * (y.Long + y.Gap)) + cI need y.Long y.Gap (h :: r) + Xm need (some (t + (lst h r - 1) * (y.Long + y.Gap) + y.Long)) rest
 | [],h,p=>by
  simp only [List.map_cons,List.map_nil,List.cons_append,List.nil_append,Xm,cI,lst,BP]
  omega
 | b :: r,h,p=>by
  have ih:=DJ need y t rest r b (some (t + (h - 1) * (y.Long + y.Gap) + y.Long))
  simp only [List.map_cons,List.cons_append] at ih ⊢
  rw [Xm,cI,lst]
  have e : (BP y t h).Time.To = t + (h - 1) * (y.Long + y.Gap) + y.Long:=rfl
  rw [e,ih]
  have e2 : (BP y t h).Time.From = t + (h - 1) * (y.Long + y.Gap):=rfl
  rw [e2]
  have hg : Xl need (some (t + (h - 1) * (y.Long + y.Gap) + y.Long)) (t + (b - 1) * (y.Long + y.Gap)) = if (b - h - 1) * y.Long + (b - h) * y.Gap < need then 1 else 0:=by
   unfold Xl
   have e3 : (b - 1) * (y.Long + y.Gap) = (h - 1) * (y.Long + y.Gap) + ((b - h) * y.Long + (b - h) * y.Gap):=by
    rw [show b - 1 = (h - 1) + (b - h) by omega,Int.add_mul,Int.mul_add (b - h)]
   have e4 : (b - h - 1) * y.Long = (b - h) * y.Long - y.Long:=by rw [Int.sub_mul,Int.one_mul]
   rw [e3,e4]
   simp only
   congr 1
   exact propext ⟨fun h=>by omega,fun h=>by omega⟩
  rw [hg]
  omega
section
variable (need : Int) (l : List Ex) (w : ByteArray)
def EY : List An → Option Int → Int → Int
 | [],_,_=>0
 | y :: ys,p,t=>match Qs l w y with
  | []=>EY ys p (Up y t)
  | h :: r=>Xl need p (t + (h - 1) * (y.Long + y.Gap)) + EY ys (some (t + (lst h r - 1) * (y.Long + y.Gap) + y.Long)) (Up y t)
theorem EZ : ∀ (M : List An) (p : Option Int) (t : Int),Xm need p (blk l w M t) = (M.map fun y=>cI need y.Long y.Gap (Qs l w y)).sum + EY need l w M p t
 | [],_,_=>rfl
 | y :: ys,p,t=>by
  rw [blk,EY,List.map_cons,List.sum_cons]
  cases hh : Qs l w y with
  | nil =>
   simp only [List.map_nil,List.nil_append]
   rw [EZ ys p (Up y t),cI]
   omega
  | cons h r =>
   simp only
   rw [DJ,EZ ys _ (Up y t)]
   omega
end
theorem GD (need : Int) (T : List Fb) (l : List Ex) (hT : InT T) : ∀ ws : List ByteArray,(((Zb T l ws).filter fun x=>!decide (need ≤ x.Long)).length : Int) = (ws.map fun w=>Xm need none (Th T l w)).sum
 | []=>rfl
 | w :: ws=>by
  have e : Zb T l (w :: ws) = prs w (Th T l w) ++ Zb T l ws:=by simp [Zb]
  rw [e,List.filter_append,List.length_append,List.map_cons,List.sum_cons]
  push_cast
  rw [prs_cnt need w (Th T l w) (fun s hs=>hT s (List.mem_filter.1 hs).1),GD need T l hT ws]
end Go.Proofs.YtlndicofaomdaaaGreatDoor
namespace Go.Proofs.YtlndicofaomdaaaGreatDoor
open Go
def hC (l : List Ex) (w key : ByteArray) : List Int:=(l.filter fun c=>decide (c.Who = w) && decide (c.Item = key)).map (·.Heat)
def spn : List Int → Ew
 | []=>Ew.mk 0 0
 | h :: r=>Ew.mk h (lst h r)
theorem GE : ∀ (r : List Int) (h x : Int),lst h (r ++ [x]) = x
 | [],_,_=>rfl
 | b :: r,h,x=>by rw [List.cons_append,lst,GE r b x]
theorem LW (l : List Int) (x : Int) : spn (l ++ [x]) = Ew.mk (if l = [] then x else (spn l).first_) x:=by
 cases l with
 | nil=>rfl
 | cons h r=>rw [List.cons_append,spn,GE,if_neg (by simp)]; rfl
theorem IW (need L G : Int) : ∀ (r : List Int) (h x : Int),cI need L G (h :: r ++ [x]) = cI need L G (h :: r) + if (x - lst h r - 1) * L + (x - lst h r) * G < need then 1 else 0
 | [],h,x=>by by_cases hq : (x - h - 1) * L + (x - h) * G < need <;> simp [cI,lst,hq]
 | b :: r,h,x=>by
  have ih:=IW need L G r b x
  simp only [List.cons_append] at ih ⊢
  rw [cI,ih,cI,lst]
  omega
theorem AP : ∀ (r : List Int) (h : Int),lst h r ∈ h :: r
 | [],h=>by simp [lst]
 | b :: r,h=>by rw [lst]; exact List.mem_cons_of_mem _ (AP r b)
theorem FA (l : List Ex) (c : Ex) (w key : ByteArray) : hC (l ++ [c]) w key = hC l w key ++ if c.Who = w ∧ c.Item = key then [c.Heat] else []:=by
 unfold hC
 rw [List.filter_append,List.map_append]
 congr 1
 by_cases h : c.Who = w ∧ c.Item = key
 ·rw [if_pos h]; simp [h.1,h.2]
 ·rw [if_neg h]
  have : (decide (c.Who = w) && decide (c.Item = key)) = false:=by
   rw [Bool.and_eq_false_iff]
   by_cases h1 : c.Who = w
   ·exact .inr (decide_eq_false fun h2=>h ⟨h1,h2⟩)
   ·exact .inl (decide_eq_false h1)
  simp [this]
theorem GF {α : Type} [DecidableEq α] : ∀ (r : List α) (p x : α),nbF p (r ++ [x]) = if (p :: r).getLast? = some x then nbF p r else nbF p r ++ [x]
 | [],p,x=>by
  by_cases h : x = p
  ·simp [nbF,h]
  ·have h2 : ¬ p = x:=fun e=>h e.symm
   simp [nbF,h,h2]
 | y :: r,p,x=>by
  have ih:=GF r y x
  rw [List.cons_append,nbF,ih,List.getLast?_cons_cons]
  by_cases h : y = p
  ·rw [if_pos h,nbF,if_pos h]
  ·rw [if_neg h,nbF,if_neg h]
   split <;> rfl
theorem nb_snoc {α : Type} [DecidableEq α] (l : List α) (x : α) : nb (l ++ [x]) = if l.getLast? = some x then nb l else nb l ++ [x]:=by
 cases l with
 | nil=>rfl
 | cons p r =>
  show p :: nbF p (r ++ [x]) = _
  rw [GF]
  split <;> rfl
theorem FB {α : Type} [DecidableEq α] : ∀ (r : List α) (p : α),(p :: nbF p r).getLast? = (p :: r).getLast?
 | [],_=>rfl
 | y :: r,p=>by
  rw [nbF,List.getLast?_cons_cons]
  split
  ·rename_i h; subst h; exact FB r y
  ·rw [List.getLast?_cons_cons]; exact FB r y
theorem HJ {α : Type} [DecidableEq α] : ∀ (r : List α) (p x : α),x ∈ nbF p r → x ∈ r
 | [],_,_,h=>by cases h
 | y :: r,p,x,h=>by
  rw [nbF] at h
  split at h
  ·exact List.mem_cons_of_mem _ (HJ r y x h)
  ·rcases List.mem_cons.1 h with rfl | h
   ·simp
   ·exact List.mem_cons_of_mem _ (HJ r y x h)
theorem nb_in {α : Type} [DecidableEq α] {l : List α} {x : α} (h : x ∈ nb l) : x ∈ l:=by
 cases l with
 | nil=>cases h
 | cons p r =>
  rcases List.mem_cons.1 h with rfl | h
  ·simp
  ·exact List.mem_cons_of_mem _ (HJ r p x h)
theorem IX (f g : An → Int) (d : Int) (y : An) (hy : g y = f y + d) : ∀ items : List An,(items.Pairwise fun a b=>a.Key ≠ b.Key) → y ∈ items → (∀ z ∈ items,z.Key ≠ y.Key → g z = f z) → (items.map g).sum = (items.map f).sum + d
 | [],_,h,_=>by cases h
 | z :: items,hd,h,hz=>by
  rw [List.pairwise_cons] at hd
  simp only [List.map_cons,List.sum_cons]
  rcases List.mem_cons.1 h with rfl | h
  ·have e : items.map g = items.map f:=List.map_congr_left fun q hq=>hz q (by simp [hq]) fun e=>hd.1 q hq e.symm
   rw [e,hy]; omega
  ·rw [IX f g d y hy items hd.2 h fun q hq=>hz q (by simp [hq]),hz z (by simp) fun e=>hd.1 y h e]
   omega
def Ti (items : List An) (l : List Ex) (w : ByteArray) : List Ew:=items.map fun y=>spn (hC l w y.Key)
def inW (need : Int) (items : List An) (l : List Ex) (w : ByteArray) : Int:=(items.map fun y=>cI need y.Long y.Gap (hC l w y.Key)).sum
theorem IY {a L : Int} (h1 : -100 ≤ a) (h2 : a ≤ 100) (h3 : 0 ≤ L) (h4 : L ≤ 3600000) : -360000000 ≤ a * L ∧ a * L ≤ 360000000:=by
 have g1 : -100 * L ≤ a * L:=Int.mul_le_mul_of_nonneg_right h1 h3
 have g2 : a * L ≤ 100 * L:=Int.mul_le_mul_of_nonneg_right h2 h3
 omega
theorem who_sep {l : List Ex} (hs : l.Pairwise fun a b=>leB a.Who b.Who) {dn ys : List Ex} {c : Ex} (e : l = dn ++ c :: ys) : dn.getLast?.map (·.Who) ≠ some c.Who → ∀ z ∈ dn,z.Who ≠ c.Who:=by
 intro hne z hz hzc
 rw [e,List.pairwise_append] at hs
 obtain ⟨h1,_,h3⟩:=hs
 rcases List.eq_nil_or_concat dn with rfl | ⟨d,q,hd2⟩
 ·cases hz
 ·rw [List.concat_eq_append] at hd2
  subst hd2
  rw [List.getLast?_append] at hne
  simp only [List.getLast?_singleton,Option.some_or,Option.map_some,ne_eq,Option.some.injEq] at hne
  have hqc:=h3 q (by simp) c (by simp)
  rcases List.mem_append.1 hz with hz | hz
  ·rw [List.pairwise_append] at h1
   have hzq:=h1.2.2 z hz q (by simp)
   rw [hzc] at hzq
   rcases hzq with h | h
   ·rcases hqc with h' | h'
    ·have:=Un h h'; rw [Tg] at this; omega
    ·exact hne h'
   ·exact hne h.symm
  ·rw [List.mem_singleton] at hz
   subst hz
   exact hne hzc
theorem DK : ∀ (r : List ByteArray) (p : ByteArray),(p :: r).Pairwise leB → (p :: nbF p r).Pairwise fun a b=>cB a b < 0
 | [],p,_=>by simp [nbF]
 | y :: r,p,h=>by
  rw [List.pairwise_cons] at h
  have hy:=h.1 y (by simp)
  have ih:=DK r y h.2
  unfold nbF
  by_cases e : y = p
  ·rw [if_pos e]
   rw [e] at ih ⊢
   exact ih
  ·rw [if_neg e]
   have h1 : cB p y < 0:=by
    rcases hy with h | h
    ·exact h
    ·exact absurd h.symm e
   refine List.pairwise_cons.2 ⟨fun z hz=>?_,ih⟩
   rcases List.mem_cons.1 hz with rfl | hz
   ·exact h1
   ·rw [List.pairwise_cons] at ih
    exact Un h1 (ih.1 z hz)
theorem nb_up {l : List ByteArray} (h : l.Pairwise leB) : (nb l).Pairwise fun a b=>cB a b < 0:=by
 cases l with
 | nil=>exact List.Pairwise.nil
 | cons p r=>exact DK r p h
section inv
variable {items : List An} {need : Int} (hd : items.Pairwise fun a b=>a.Key ≠ b.Key) (hg : ∀ x ∈ items,Mg x)
include hd hg
theorem LX {dn : List Ex} {c : Ex} {k : Nat} {it : An} {s : Int × Rows} (hk : Ez items c.Item = (k : Int)) (hget : items[k]? = some it) (hkey : it.Key = c.Item) (hh : ∀ z ∈ dn ++ [c],1 ≤ z.Heat ∧ z.Heat ≤ 60)
  (hsep : dn.getLast?.map (·.Who) ≠ some c.Who → ∀ z ∈ dn,z.Who ≠ c.Who) (hpre : ∀ pre,nb (dn.map (·.Who)) = pre ++ [c.Who] → c.Who ∉ pre)
  (h1 : s.2 = (nb (dn.map (·.Who))).map (Ti items dn)) (h2 : s.1 = ((nb (dn.map (·.Who))).map (inW need items dn)).sum) (h3 : 0 ≤ s.1 ∧ s.1 ≤ (dn.length : Int)) (hn : dn.length ≤ 2000) :
  (Oo items need (dn.getLast?.map (·.Who)) c s).2 = (nb ((dn ++ [c]).map (·.Who))).map (Ti items (dn ++ [c])) ∧ (Oo items need (dn.getLast?.map (·.Who)) c s).1 = ((nb ((dn ++ [c]).map (·.Who))).map (inW need items (dn ++ [c]))).sum ∧
   0 ≤ (Oo items need (dn.getLast?.map (·.Who)) c s).1 ∧ (Oo items need (dn.getLast?.map (·.Who)) c s).1 ≤ ((dn ++ [c]).length : Int):=by
 have hlast : (dn.map (·.Who)).getLast? = dn.getLast?.map (·.Who):=List.getLast?_map ..
 -- the names,with this one at the end
 obtain ⟨pre,p1,p2,p3,p4⟩ : ∃ pre,nb ((dn ++ [c]).map (·.Who)) = pre ++ [c.Who] ∧ c.Who ∉ pre ∧ (if dn.getLast?.map (·.Who) = some c.Who then s.2 else s.2 ++ [List.replicate items.length (Ew.mk 0 0)]) = (pre ++ [c.Who]).map (Ti items dn) ∧ s.1 = ((pre ++ [c.Who]).map (inW need items dn)).sum:=by
  rw [List.map_append,List.map_singleton,nb_snoc,hlast]
  by_cases hq : dn.getLast?.map (·.Who) = some c.Who
  ·rw [if_pos hq,if_pos hq]
   have hne : dn ≠ []:=fun e=>by rw [e] at hq; cases hq
   cases hdn : dn.map (·.Who) with
   | nil=>exact absurd (List.map_eq_nil_iff.1 hdn) hne
   | cons a r =>
    have hl2:=FB r a
    rw [← hdn,hlast,hq] at hl2
    obtain ⟨pre,hp⟩:=List.getLast?_eq_some_iff.1 hl2
    have hnb : nb (dn.map (·.Who)) = pre ++ [c.Who]:=by rw [hdn]; exact hp
    refine ⟨pre,hp,hpre pre hnb,?_,?_⟩
    ·rw [h1,hnb]
    ·rw [h2,hnb]
  ·rw [if_neg hq,if_neg hq]
   have hno:=hsep hq
   have hc0 : ∀ key,hC dn c.Who key = []:=fun key=>by
    unfold hC
    rw [List.filter_eq_nil_iff.2 fun z hz=>by simp [hno z hz]]
    rfl
   refine ⟨nb (dn.map (·.Who)),rfl,fun hm=>?_,?_,?_⟩
   ·obtain ⟨z,hz,e⟩:=List.mem_map.1 (nb_in hm)
    exact hno z hz e
   ·rw [List.map_append,List.map_singleton,h1]
    congr 2
    unfold Ti
    rw [List.map_congr_left (g:=fun _=>Ew.mk 0 0) fun y _=>by rw [hc0]; rfl,List.map_const']
   ·rw [List.map_append,List.map_singleton,List.sum_append,h2]
    have : inW need items dn c.Who = 0:=by
     unfold inW
     rw [List.map_congr_left (g:=fun _=>(0 : Int)) fun y _=>by rw [hc0]; rfl,List.map_const']
     simp
    rw [this]
    simp
 have hklt : k < items.length:=(List.getElem?_eq_some_iff.1 hget).1
 have hit : it ∈ items:=List.mem_of_getElem? hget
 have hgt:=hg it hit
 have hnit : nth items (k : Int) = it:=Oc hget
 have hoth : ∀ w',w' ≠ c.Who → ∀ key,hC (dn ++ [c]) w' key = hC dn w' key:=fun w' hw key=>by rw [FA,if_neg fun e=>hw e.1.symm,List.append_nil]
 have hsame : ∀ z ∈ items,z.Key ≠ it.Key → hC (dn ++ [c]) c.Who z.Key = hC dn c.Who z.Key:=fun z _ hz=>by rw [FA,if_neg fun e=>hz (by rw [hkey]; exact e.2.symm),List.append_nil]
 have hthis : hC (dn ++ [c]) c.Who it.Key = hC dn c.Who it.Key ++ [c.Heat]:=by rw [FA,if_pos ⟨rfl,hkey.symm⟩]
 have hpm : ∀ {β : Type} (F G : ByteArray → β),(∀ w',w' ≠ c.Who → F w' = G w') → pre.map F = pre.map G:=fun F G hFG=>List.map_congr_left fun w' hw'=>hFG w' fun e=>p2 (by rw [← e]; exact hw')
 unfold Oo
 simp only
 rw [p3,p1,hk,Int.toNat_natCast]
 have hlen : ((pre ++ [c.Who]).map (Ti items dn)).length = pre.length + 1:=by simp
 have hrow : nth ((pre ++ [c.Who]).map (Ti items dn)) ((((pre ++ [c.Who]).map (Ti items dn)).length : Int) - 1) = Ti items dn c.Who:=by
  rw [hlen,show ((pre.length + 1 : Nat) : Int) - 1 = (pre.length : Int) by omega]
  exact Oc (by simp)
 rw [hrow]
 have hsp : nth (Ti items dn c.Who) (k : Int) = spn (hC dn c.Who it.Key):=Oc (by unfold Ti; rw [List.getElem?_map,hget]; rfl)
 rw [hsp,hnit,hlen]
 have hemp : (spn (hC dn c.Who it.Key)).last_ = 0 ↔ hC dn c.Who it.Key = []:=by
  constructor
  ·intro h0
   cases hq : hC dn c.Who it.Key with
   | nil=>rfl
   | cons a r =>
    rw [hq] at h0
    have hm:=AP r a
    rw [← hq] at hm
    unfold hC at hm
    obtain ⟨z,hz,e⟩:=List.mem_map.1 hm
    have:=(hh z (List.mem_append.2 (.inl (List.mem_filter.1 hz).1))).1
    simp only [spn] at h0
    omega
  ·intro h0; rw [h0]; rfl
 refine ⟨?_,?_⟩
 ·rw [show pre.length + 1 - 1 = pre.length by omega]
  have e1 : ((pre ++ [c.Who]).map (Ti items dn)).set pre.length ((Ti items dn c.Who).set k (Ew.mk (if (spn (hC dn c.Who it.Key)).last_ = 0 then c.Heat else (spn (hC dn c.Who it.Key)).first_) c.Heat)) = pre.map (Ti items dn) ++ [(Ti items dn c.Who).set k (Ew.mk (if (spn (hC dn c.Who it.Key)).last_ = 0 then c.Heat else (spn (hC dn c.Who it.Key)).first_) c.Heat)]:=by
   rw [List.map_append,List.set_append_right _ _ (by simp)]
   simp
  rw [e1,List.map_append,hpm (Ti items (dn ++ [c])) (Ti items dn) fun w' hw=>by unfold Ti; exact List.map_congr_left fun y _=>by rw [hoth w' hw],List.map_singleton]
  congr 2
  unfold Ti
  refine List.ext_getElem? fun i=>?_
  rw [List.getElem?_set,List.length_map]
  by_cases hi : k = i
  ·subst hi
   rw [if_pos rfl,if_pos hklt,List.getElem?_map,hget,Option.map_some,hthis,LW]
   by_cases h0 : hC dn c.Who it.Key = []
   ·rw [if_pos h0,if_pos (hemp.2 h0)]
   ·rw [if_neg h0,if_neg fun e=>h0 (hemp.1 e)]
  ·rw [if_neg hi,List.getElem?_map,List.getElem?_map]
   cases hq : items[i]? with
   | none=>rfl
   | some z =>
    have hz : z ∈ items:=List.mem_of_getElem? hq
    have hzk : z.Key ≠ it.Key:=by
     rw [List.pairwise_iff_getElem] at hd
     obtain ⟨i1,i2⟩:=List.getElem?_eq_some_iff.1 hq
     obtain ⟨k1,k2⟩:=List.getElem?_eq_some_iff.1 hget
     rw [← i2,← k2]
     rcases Nat.lt_or_ge i k with h | h
     ·exact hd i k i1 k1 h
     ·exact fun e=>hd k i k1 i1 (by omega) e.symm
    rw [Option.map_some,Option.map_some,hsame z hz hzk]
 ·have hinW : inW need items (dn ++ [c]) c.Who = inW need items dn c.Who + (if hC dn c.Who it.Key = [] then 0 else if (c.Heat - (spn (hC dn c.Who it.Key)).last_ - 1) * it.Long + (c.Heat - (spn (hC dn c.Who it.Key)).last_) * it.Gap < need then 1 else 0):=by
   unfold inW
   refine IX _ _ _ it ?_ items hd hit fun z hz hzk=>by rw [hsame z hz hzk]
   rw [hthis]
   cases hq : hC dn c.Who it.Key with
   | nil=>simp [cI]
   | cons a r=>rw [IW,if_neg (show ¬ (a :: r = []) from List.cons_ne_nil a r)]; rfl
  have hsum : ((pre ++ [c.Who]).map (inW need items (dn ++ [c]))).sum = ((pre ++ [c.Who]).map (inW need items dn)).sum + (if hC dn c.Who it.Key = [] then 0 else if (c.Heat - (spn (hC dn c.Who it.Key)).last_ - 1) * it.Long + (c.Heat - (spn (hC dn c.Who it.Key)).last_) * it.Gap < need then 1 else 0):=by
   rw [List.map_append,List.map_append,List.sum_append,List.sum_append,hpm (inW need items (dn ++ [c])) (inW need items dn) fun w' hw=>by unfold inW; rw [List.map_congr_left fun y _=>by rw [hoth w' hw]]]
   simp only [List.map_singleton,List.sum_singleton,hinW]
   omega
  rw [hsum,← p4]
  by_cases h0 : hC dn c.Who it.Key = []
  ·rw [if_pos (hemp.2 h0),if_pos h0,List.length_append,List.length_singleton]
   push_cast
   omega
  ·rw [if_neg fun e=>h0 (hemp.1 e),if_neg h0]
   obtain ⟨l1,l2⟩ : 1 ≤ (spn (hC dn c.Who it.Key)).last_ ∧ (spn (hC dn c.Who it.Key)).last_ ≤ 60:=by
    cases hq : hC dn c.Who it.Key with
    | nil=>exact absurd hq h0
    | cons a r =>
     have hm:=AP r a
     rw [← hq] at hm
     unfold hC at hm
     obtain ⟨z,hz,e⟩:=List.mem_map.1 hm
     have:=hh z (List.mem_append.2 (.inl (List.mem_filter.1 hz).1))
     simp only [spn]
     omega
   obtain ⟨c1,c2⟩:=hh c (by simp)
   unfold Mg at hgt
   generalize (spn (hC dn c.Who it.Key)).last_ = la at *
   obtain ⟨m1,m2⟩:=IY (a:=c.Heat - la - 1) (L:=it.Long) (by omega) (by omega) (by omega) (by omega)
   obtain ⟨m3,m4⟩:=IY (a:=c.Heat - la) (L:=it.Gap) (by omega) (by omega) (by omega) (by omega)
   rw [Km (n:=c.Heat - la) (by omega) (by omega),Km (n:=c.Heat - la - 1) (by omega) (by omega),Km (n:=(c.Heat - la - 1) * it.Long) (by omega) (by omega),Km (n:=(c.Heat - la) * it.Gap) (by omega) (by omega),Km (n:=(c.Heat - la - 1) * it.Long + (c.Heat - la) * it.Gap) (by omega) (by omega),List.length_append,List.length_singleton]
   split
   ·rw [Km (by omega) (by omega)]
    push_cast
    omega
   ·push_cast
    omega
theorem LY {l : List Ex} (hl : l.length ≤ 2000) (hs : l.Pairwise fun a b=>leB a.Who b.Who) (hcv : ∀ c ∈ l,∃ (k : Nat) (it : An),Ez items c.Item = (k : Int) ∧ items[k]? = some it ∧ it.Key = c.Item) (hh : ∀ z ∈ l,1 ≤ z.Heat ∧ z.Heat ≤ 60) : ∀ (ys dn : List Ex) (s : Int × Rows),l = dn ++ ys →
  s.2 = (nb (dn.map (·.Who))).map (Ti items dn) → s.1 = ((nb (dn.map (·.Who))).map (inW need items dn)).sum → (0 ≤ s.1 ∧ s.1 ≤ (dn.length : Int)) →
  (Ps items need (dn.getLast?.map (·.Who)) ys s).2 = (nb (l.map (·.Who))).map (Ti items l) ∧ (Ps items need (dn.getLast?.map (·.Who)) ys s).1 = ((nb (l.map (·.Who))).map (inW need items l)).sum ∧ 0 ≤ (Ps items need (dn.getLast?.map (·.Who)) ys s).1 ∧ (Ps items need (dn.getLast?.map (·.Who)) ys s).1 ≤ (l.length : Int):=by
 intro ys
 induction ys with
 | nil =>
  intro dn s e h1 h2 h3
  rw [List.append_nil] at e
  rw [e]
  exact ⟨h1,h2,h3⟩
 | cons c ys ihy =>
  intro dn s e h1 h2 h3
  obtain ⟨k,it,k1,k2,k3⟩:=hcv c (by rw [e]; simp)
  have hlen : l.length = dn.length + (ys.length + 1):=by rw [e]; simp
  have a1 : ∀ z ∈ dn ++ [c],1 ≤ z.Heat ∧ z.Heat ≤ 60:=fun z hz=>hh z (by
   rw [e]
   rcases List.mem_append.1 hz with h | h
   ·exact List.mem_append.2 (.inl h)
   ·rw [List.mem_singleton] at h
    rw [h]
    exact List.mem_append.2 (.inr (List.mem_cons_self ..)))
  have hP : (dn.map (·.Who)).Pairwise leB:=by
   rw [List.pairwise_map]
   rw [e,List.pairwise_append] at hs
   exact hs.1
  have hu:=nb_up hP
  have a2 : ∀ pre,nb (dn.map (·.Who)) = pre ++ [c.Who] → c.Who ∉ pre:=fun pre hp hm=>by
   rw [hp,List.pairwise_append] at hu
   have:=hu.2.2 c.Who hm c.Who (List.mem_singleton.2 rfl)
   rw [Tg] at this
   omega
  obtain ⟨g1,g2,g3⟩:=LX (need:=need) hd hg k1 k2 k3 a1 (who_sep hs e) a2 h1 h2 h3 (by omega)
  rw [Ps]
  generalize Oo items need (dn.getLast?.map (·.Who)) c s = s' at g1 g2 g3 ⊢
  have hp : (dn ++ [c]).getLast?.map (·.Who) = some c.Who:=by simp
  rw [← hp]
  exact ihy (dn ++ [c]) s' (e.trans (List.append_cons _ _ _)) g1 g2 g3
end inv
end Go.Proofs.YtlndicofaomdaaaGreatDoor
namespace Go.Proofs.YtlndicofaomdaaaGreatDoor
open Go
def ltK (x y : An) : Bool:=decide (Ln x y < 0)
theorem HK (x y : An) : ltK x y = decide (cB x.Key y.Key < 0):=rfl
theorem len_o : ∀ n : Fin 13,(Ug (IntKind.wrap .u64 (n.val : Int))).isSome = true:=by decide +kernel
theorem KE (l : List An) (hl : l.length ≤ 12) : Hl l 0 (l.length : Int) = some (Md ltK l):=by
 unfold Hl
 simp only [Lk]
 have hins : ∀ (k : List An → Option (List An)) (rp : List An) (x : An) (post : List An),((rp ++ x :: post).length : Int) = (l.length : Int) → (∀ y,y ∈ rp ∨ y = x ∨ y ∈ post → y ∈ (rp ++ x :: post)) →
   Fp 0 k (((rp.length : Int) - 0).toNat + 2) (rp.reverse ++ x :: post) (rp.length : Int) = k ((Tp ltK x rp).reverse ++ post):=by
  intro k rp x post h1 _
  exact LI (fun x y k=>k (ltK x y)) ltK k (Fp 0 k) (fun _ _ _=>rfl) rp x post _ (by omega) (by simp at h1; omega) fun y _ k'=>rfl
 cases l with
 | nil=>rfl
 | cons x l =>
  have hw : W (0 + 1) = (([x] : List An).length : Int):=rfl
  rw [hw]
  exact ER ltK (fun x=>some x) (fun k x i=>Fp 0 k ((i - 0).toNat + 2) x i) (Fx ((x :: l).length : Int) 0 fun x=>some x) ((x :: l).length : Int) (fun _ _ _=>rfl)
   (fun k rp x post h1 h2=>hins k rp x post h1 h2) l [x] _ (by simp only [List.length_cons,List.length_nil]; omega) (by simp only [List.length_cons,List.length_nil]; omega) (by simp only [List.length_cons,List.length_nil] at hl ⊢; omega)
theorem LZ (l : List An) (hl : l.length ≤ 12) : Je l = some (Md ltK l):=by
 unfold Je
 obtain ⟨r,hr⟩:=Option.isSome_iff_exists.1 (len_o ⟨l.length,by omega⟩)
 simp only at hr
 rw [hr]
 simp only [Option.bind_some]
 unfold Jf
 rw [show (4611686018427387904 : Nat) = 4611686018427387903 + 1 from rfl,Gs,Km (by omega) (by omega),if_pos (decide_eq_true (by omega)),KE l hl]
 rfl
theorem GG : ∀ {l : List An} {key : ByteArray},(∃ y ∈ l,y.Key = key) → ∃ k,ixN l key = some k
 | [],_,⟨_,h,_⟩=>by cases h
 | x :: l,key,⟨y,hy,hk⟩=>by
  rw [ixN]
  by_cases h : x.Key = key
  ·exact ⟨0,by rw [if_pos h]⟩
  ·rcases List.mem_cons.1 hy with rfl | hy
   ·exact absurd hk h
   ·obtain ⟨k,e⟩:=GG ⟨y,hy,hk⟩
    exact ⟨k + 1,by rw [if_neg h,e]; rfl⟩
theorem KF {l : List An} {key : ByteArray} (h : ∃ y ∈ l,y.Key = key) : 0 ≤ Ez l key ∧ Ez l key < (l.length : Int):=by
 obtain ⟨k,e⟩:=GG h
 have:=BH e
 rw [Xa]
 unfold ixI
 rw [e]
 simp only
 omega
def Qt (i n : Nat) : List Int:=(List.range' i n).map fun k : Nat=>(k : Int)
theorem GH (j : List Int → Option ((List ByteArray) × Int × Int)) : ∀ (ys : List An) (i : Nat) (x : List Int),x.length + ys.length ≤ 1000 → Kf j ys i x = j (x ++ Qt i ys.length)
 | [],_,x,_=>by rw [Kf]; simp [Qt]
 | y :: ys,i,x,h=>by
  simp only [List.length_cons] at h
  rw [Kf,Lb (by unfold Pa; simp; omega),GH j ys (i + 1) _ (by simp; omega)]
  simp [Qt,List.range'_succ]
theorem GI (s : List An) (j : List ByteArray → Option ((List ByteArray) × Int × Int)) : ∀ (ys : List Int) (i : Nat) (x : List ByteArray),InR s.length ys → x.length + ys.length ≤ 1000 → Jx s j ys i x = j (x ++ ys.map fun k=>(nth s k).Key)
 | [],_,x,_,_=>by rw [Jx]; simp
 | y :: ys,i,x,hk,h=>by
  obtain ⟨h0,h1⟩:=hk y (by simp)
  simp only [List.length_cons] at h
  rw [Jx,Lb (Hu.2 ⟨h0,h1⟩),Lb (by unfold Pa; simp; omega),GI s j ys (i + 1) _ (fun z hz=>hk z (by simp [hz])) (by simp; omega)]
  simp
theorem Vs (n : Nat) : InR n (Qt 0 n):=fun k hk=>by
 obtain ⟨q,hq,rfl⟩:=List.mem_map.1 hk
 have:=List.mem_range'_1.1 hq
 omega
theorem Qz (i n : Nat) : (Qt i n).length = n:=by simp [Qt]
theorem GJ (leaf : List Int → Int × Int) : ∀ (m : Nat) (now rest : List Int) (a : Acc) (b : Nat),a.1.length ≤ b → now.length + rest.length ≤ b → (Yd leaf m now rest a).1.length ≤ b
 | 0,_,_,_,_,h,_=>h
 | m + 1,now,rest,a,b,ha,hb=>by
  rw [Yd]
  split
  ·unfold Yc
   split
   ·show now.length ≤ b; omega
   ·exact ha
  ·have loop : ∀ (ys dn : List Int) (c : Acc),rest = dn ++ ys → c.1.length ≤ b → (CG (Yd leaf m) now rest ys dn.length c).1.length ≤ b:=by
    intro ys
    induction ys with
    | nil=>intro dn c _ hc; exact hc
    | cons y ys ih =>
     intro dn c e hc
     have hl : rest.length = dn.length + (ys.length + 1):=by rw [e]; simp
     have hel:=List.length_eraseIdx_of_lt (l:=rest) (i:=dn.length) (by omega)
     rw [CG]
     have h1:=GJ leaf m (now ++ [y]) (rest.eraseIdx dn.length) c b hc (by rw [List.length_append,List.length_singleton]; omega)
     have:=ih (dn ++ [y]) _ (by rw [e]; simp) h1
     rw [List.length_append,List.length_singleton] at this
     exact this
   exact loop rest [] a rfl ha
def Uq (s : List An) (c : List Ex) (need : Int) : Acc:=Yd (Tq s need (Ps s need none c (0,[])).1 (Ps s need none c (0,[])).2) 16 [] (Qt 0 s.length) ([],0,0,false)
theorem MA {x : List An} {c : List Ex} {need : Int} (hsw : La x c = some 0) (hg : ∀ z ∈ x,Mg z) (hcv : ∀ z ∈ c,∃ k y,CV x z k y) (hx : x.length ≤ 8) (hc : c.length ≤ 2000) (n0 : 0 ≤ need) (n1 : need ≤ 3600000) :
  Np x c need = some (if 345686400000 < Mu (tt x 0) 0 then ([],0,1) else ((Uq (Md ltK x) c need).1.map (fun k=>(nth (Md ltK x) k).Key),(Uq (Md ltK x) c need).2.1,0)):=by
 have hlen:=BK ltK x
 have hk : ∀ z ∈ c,0 ≤ Ez (Md ltK x) z.Item ∧ Ez (Md ltK x) z.Item < ((Md ltK x).length : Int):=fun z hz=>by
  obtain ⟨k,y,h⟩:=hcv z hz
  refine KF ⟨y,(JZ ltK x y).2 (List.mem_of_getElem? h.get),?_⟩
  have hkey : ∀ {l : List An} {key : ByteArray} {k : Nat} {y : An},ixN l key = some k → l[k]? = some y → y.Key = key:=by
   intro l
   induction l with
   | nil=>intro key k y h; cases h
   | cons q l ih =>
    intro key k y h h2
    rw [ixN] at h
    split at h
    ·rename_i hq
     obtain rfl:=Option.some.inj h
     simp at h2
     rw [← h2]; exact hq
    ·obtain ⟨k',h3,h4⟩:=Option.map_eq_some_iff.1 h
     subst h4
     exact ih h3 (by simpa using h2)
  exact hkey h.ix h.get
 obtain ⟨e1,e2,e3⟩:=EW (items:=Md ltK x) (l:=c) (need:=need) (by omega) hc hk
 have hW : Gy need 0 3600000 = true:=by unfold Gy; simp; omega
 have htt:=Zs x 0 hg
 have hbl : (Uq (Md ltK x) c need).1.length ≤ (Md ltK x).length:=GJ _ _ _ _ _ _ (by simp) (by rw [Qz]; simp)
 have hbi : InR (Md ltK x).length (Uq (Md ltK x) c need).1:=IR _ _ _ _ _ (fun _ h=>by cases h) (Vs _) (fun _ h=>by cases h)
 unfold Np
 rw [hsw,Option.bind_some,if_neg (by simp),if_neg (by simp only [decide_eq_true_eq]; omega)]
 simp only [Lk]
 rw [hW,if_neg (by simp),Yx x 0 hg (by omega) (by omega) (by omega),Option.bind_some,LE _ _ (by omega),Option.bind_some]
 by_cases hE : 345686400000 < Mu (tt x 0) 0
 ·rw [if_pos (decide_eq_true hE),if_pos hE]
 ·rw [if_neg (by simpa using hE),if_neg hE]
  unfold Lg
  rw [Lb (by simp; omega),Option.bind_some,List.nil_append,LZ x (by omega),Option.bind_some,e1,Option.bind_some,GH _ _ 0 [] (by simp; omega),List.nil_append]
  have ht:=LP (within:=(Ps (Md ltK x) need none c (0,[])).1) (need:=need) (show (Md ltK x).length ≤ 1000 by omega) e2 16 [] (Qt 0 (Md ltK x).length) ([],0,0,false) (by rw [Qz]; omega) (fun _ h=>by cases h) (Vs _) (by rw [Qz]; simp; omega)
  rw [ht,Option.bind_some]
  show Jx (Md ltK x) (fun x3=>some (x3,(Uq (Md ltK x) c need).2.1,0)) (Uq (Md ltK x) c need).1 0 [] = _
  rw [GI _ _ _ 0 [] hbi (by simp; omega),List.nil_append]
theorem DL {items : List An} (hi : items.length ≤ 100) {o : List ByteArray} (j : List An → Option ((List An) × Int)) (hj : ∀ x,∃ r,j x = some r) : ∀ (ys dn : List ByteArray) (x : List An),o = dn ++ ys → x.length + ys.length ≤ 1000 → ∃ r,Jo items o j ys dn.length x = some r
 | [],_,x,_,_=>by obtain ⟨r,h⟩:=hj x; exact ⟨r,by rw [Jo,h]⟩
 | y :: ys,dn,x,e,h=>by
  simp only [List.length_cons] at h
  have hl : o.length = dn.length + (ys.length + 1):=by rw [e]; simp
  rw [Jo]
  by_cases h0 : Ez items y < 0
  ·exact ⟨_,by rw [if_pos (decide_eq_true h0)]⟩
  ·rw [if_neg (by simpa using h0),Lb (Nt.2 (by omega))]
   by_cases h1 : Ma (cut o 0 (dn.length : Int)) y = true
   ·exact ⟨_,by rw [if_pos h1]⟩
   ·have hix : Ez items y < (items.length : Int):=by
     rw [Xa] at h0 ⊢
     unfold ixI at h0 ⊢
     cases hx : ixN items y with
     | none=>rw [hx] at h0; simp at h0
     | some k=>have:=BH hx; simp only; omega
    rw [if_neg h1,Lb (Hu.2 (by omega)),Lb (by unfold Pa; simp; omega)]
    obtain ⟨r,hr⟩:=DL hi (o:=o) j hj ys (dn ++ [y]) (x ++ [nth items (Ez items y)]) (by rw [e]; simp) (by simp; omega)
    rw [List.length_append,List.length_singleton] at hr
    exact ⟨r,hr⟩
theorem KG {items : List An} (hi : items.length ≤ 100) (hc : Jq items = some 0) (o : List ByteArray) : ∃ r,Mm items o = some r:=by
 unfold Mm
 rw [hc,Option.bind_some,if_neg (by simp)]
 by_cases h2 : (o.length : Int) = (items.length : Int)
 ·rw [if_neg (by simp [h2]),Lk]
  exact DL hi _ (fun x=>⟨_,rfl⟩) o [] [] rfl (by simp; omega)
 ·exact ⟨_,by rw [if_pos (by simpa using h2)]⟩
end Go.Proofs.YtlndicofaomdaaaGreatDoor
namespace Go.Proofs.YtlndicofaomdaaaGreatDoor
open Go
theorem AQ : ∀ (k : Nat) (h x : Int),x ∈ hts k h ↔ h ≤ x ∧ x < h + (k : Int)
 | 0,h,x=>by simp only [hts,List.not_mem_nil,false_iff]; omega
 | k + 1,h,x=>by
  rw [hts,List.mem_cons,AQ k (h + 1) x]
  push_cast
  omega
theorem MB : ∀ (k : Nat) (h : Int),(hts k h).Pairwise fun a b=>a < b
 | 0,_=>List.Pairwise.nil
 | k + 1,h=>List.pairwise_cons.2 ⟨fun x hx=>by have:=(AQ k (h + 1) x).1 hx; omega,MB k (h + 1)⟩
def ltZ (a b : Int) : Bool:=decide (a < b)
theorem MC {l : List Ex} (hs : l.Pairwise fun a b=>cC a b < 0) {w : ByteArray} {y : An} (hy : ∀ c ∈ l,c.Item = y.Key → 1 ≤ c.Heat ∧ c.Heat ≤ y.Heats) : hC l w y.Key = Qs l w y:=by
 refine IQ (lt:=ltZ) (fun x=>by unfold ltZ; simp) (fun x z u h1 h2=>by unfold ltZ at *; simp at *; omega) _ _ ?_ ?_ fun x=>?_
 ·unfold hC
  rw [List.pairwise_map]
  refine (hs.filter _).imp_of_mem fun {a b} ha hb h=>?_
  have h1:=(List.mem_filter.1 ha).2
  have h2:=(List.mem_filter.1 hb).2
  simp only [Bool.and_eq_true,decide_eq_true_eq] at h1 h2
  rw [HD,h1.1,h1.2,h2.1,h2.2,Tg,Tg] at h
  unfold ltZ
  refine decide_eq_true ?_
  rcases h with h | ⟨_,h | ⟨_,h⟩⟩
  ·omega
  ·omega
  ·exact h
 ·unfold Qs
  exact ((MB _ _).filter _).imp fun h=>by unfold ltZ; exact decide_eq_true h
 ·unfold hC Qs
  rw [List.mem_map,List.mem_filter,AQ]
  constructor
  ·rintro ⟨c,hc,rfl⟩
   obtain ⟨h1,h2⟩:=List.mem_filter.1 hc
   simp only [Bool.and_eq_true,decide_eq_true_eq] at h2
   have h3:=hy c h1 h2.2
   refine ⟨by omega,?_⟩
   unfold EX
   rw [List.any_eq_true]
   exact ⟨c,h1,by rw [← h2.1,← h2.2]; exact decide_eq_true rfl⟩
  ·rintro ⟨_,h2⟩
   unfold EX at h2
   rw [List.any_eq_true] at h2
   obtain ⟨c,h3,h4⟩:=h2
   have h4:=of_decide_eq_true h4
   exact ⟨c,List.mem_filter.2 ⟨h3,by rw [← h4]; simp⟩,by rw [← h4]⟩
theorem BQ {l : List Ex} {w : ByteArray} {y : An} (hg : Mg y) {x : Int} (h : x ∈ Qs l w y) : 1 ≤ x ∧ x ≤ 60:=by
 unfold Qs at h
 have h1:=(AQ _ _ _).1 (List.mem_filter.1 h).1
 unfold Mg at hg
 omega
theorem BR {a L : Int} (h1 : 0 ≤ a) (h2 : a ≤ 100) (h3 : 0 ≤ L) (h4 : L ≤ 10000000) : 0 ≤ a * L ∧ a * L ≤ 1000000000:=by
 have g1 : a * L ≤ 100 * L:=Int.mul_le_mul_of_nonneg_right h2 h3
 exact ⟨Int.mul_nonneg h1 h3,by omega⟩
theorem Xc {x : An} (hg : Mg x) {h : Int} (h1 : 1 ≤ h) (h2 : h ≤ 60) : Hc x h = (h - 1) * (x.Long + x.Gap) ∧ 0 ≤ (h - 1) * (x.Long + x.Gap) ∧ (h - 1) * (x.Long + x.Gap) ≤ 1000000000:=by
 unfold Mg at hg
 obtain ⟨m1,m2⟩:=BR (a:=h - 1) (L:=x.Long + x.Gap) (by omega) (by omega) (by omega) (by omega)
 refine ⟨?_,m1,m2⟩
 unfold Hc
 rw [Km (n:=h - 1) (by omega) (by omega),Km (n:=x.Long + x.Gap) (by omega) (by omega),Km (by omega) (by omega)]
theorem MD (y : An) : ∀ (k : Nat) (t : Int),Sl y (k + 1) t = t + (k : Int) * (y.Long + y.Gap) + y.Long
 | 0,t=>by simp [Sl]
 | k + 1,t=>by
  rw [Sl,MD y k]
  have : ((k + 1 : Nat) : Int) * (y.Long + y.Gap) = (k : Int) * (y.Long + y.Gap) + (y.Long + y.Gap):=by push_cast; rw [Int.add_mul,Int.one_mul]
  rw [this]
  omega
theorem IZ {y : An} (hg : Mg y) (t : Int) : Sl y y.Heats.toNat t = t + (y.Heats - 1) * (y.Long + y.Gap) + y.Long:=by
 unfold Mg at hg
 obtain ⟨k,hk⟩ : ∃ k : Nat,y.Heats.toNat = k + 1:=⟨y.Heats.toNat - 1,by omega⟩
 rw [hk,MD,show y.Heats - 1 = (k : Int) by omega]
theorem Zc {y : An} (hg : Mg y) (t : Int) : t ≤ Up y t ∧ Up y t ≤ t + 500000000:=by
 have h:=Rj y hg y.Heats.toNat t
 unfold Up
 unfold Mg at hg
 omega
section ord
variable {items : List An} (hg : ∀ x ∈ items,Mg x)
theorem HL {l : List Int} {z k v : Int} (h0 : 0 ≤ z) (h1 : 0 ≤ k) (h : z ≠ k) : nth (l.set z.toNat v) k = nth l k:=by
 unfold nth List.getD
 rw [List.getElem?_set_ne (by omega)]
theorem DM : ∀ (ks fr : List Int) (a e k : Int),k ∉ ks → 0 ≤ k → (∀ z ∈ ks,0 ≤ z) → nth (AK items ks fr a e).1 k = nth fr k
 | [],_,_,_,_,_,_,_=>rfl
 | z :: ks,fr,a,e,k,hk,h0,hz=>by
  rw [List.mem_cons,not_or] at hk
  rw [AK,DM ks _ _ _ k hk.2 h0 (fun q hq=>hz q (by simp [hq])),HL (hz z (by simp)) h0 (fun e=>hk.1 e.symm)]
def FrOk (items : List An) (fr : List Int) : List Int → Int → Prop
 | [],_=>True
 | k :: ks,t=>nth fr k = t ∧ FrOk items fr ks (Up (nth items k) t)
include hg
theorem BS {k : Int} (h0 : 0 ≤ k) (h1 : k < (items.length : Int)) : Mg (nth items k):=hg _ (EV h0 h1)
theorem JA : ∀ (ks fr : List Int) (a e : Int),ks.Nodup → InR items.length ks → fr.length = items.length → 0 ≤ a → a + 500000000 * (ks.length : Int) ≤ 1000000000000 → FrOk items (AK items ks fr a e).1 ks a
 | [],_,_,_,_,_,_,_,_=>trivial
 | k :: ks,fr,a,e,hn,hk,hf,h0,hb=>by
  rw [List.nodup_cons] at hn
  obtain ⟨k0,k1⟩:=hk k (by simp)
  have hgk:=BS hg k0 k1
  have hg2:=hgk
  simp only [List.length_cons] at hb
  push_cast at hb
  unfold Mg at hg2
  obtain ⟨b1,b2,b3⟩:=Xc hgk (h:=(nth items k).Heats) (by omega) (by omega)
  have he:=IZ hgk a
  have hnx:=Zc hgk a
  have hnxt : W ((W ((W (a + (Hc (nth items k) ((nth items k).Heats)))) + ((nth items k).Long))) + ((nth items k).Break)) = Up (nth items k) a:=by
   rw [b1,Km (n:=a + _) (by omega) (by omega),Km (n:=a + _ + (nth items k).Long) (by omega) (by omega),Km (by omega) (by omega)]
   unfold Up
   rw [he]
  rw [AK,hnxt]
  have ih:=JA ks (fr.set k.toNat a) (Up (nth items k) a) (W ((W (a + (Hc (nth items k) ((nth items k).Heats)))) + ((nth items k).Long))) hn.2 (fun z hz=>hk z (by simp [hz])) (by simpa using hf) (by omega) (by omega)
  refine ⟨?_,ih⟩
  rw [DM ks _ _ _ k hn.1 k0 (fun z hz=>(hk z (by simp [hz])).1)]
  unfold nth List.getD
  rw [List.getElem?_set_self (by omega)]
  rfl
omit hg in
theorem HM {need : Int} {row : List Ew} {fr : List Int} {k : Int} {ks : List Int} {s la : Int} (A B : Int) (hl : (nth row k).last_ ≠ 0) (hA : W (nth fr k + Hc (nth items k) (nth row k).first_) = A) (hB : W (W (nth fr k + Hc (nth items k) (nth row k).last_) + (nth items k).Long) = B) :
  Uo items need row fr (k :: ks) s la = Uo items need row fr ks (if 0 ≤ la ∧ W (A - la) < need then W (s + 1) else s) B:=by
 subst hA hB
 rw [Uo,if_neg hl]
theorem GK (need : Int) (l : List Ex) (w : ByteArray) (row : List Ew) (fr : List Int) : ∀ (ks : List Int) (s la t : Int),InR items.length ks → (∀ k ∈ ks,nth row k = spn (Qs l w (nth items k))) → FrOk items fr ks t → 0 ≤ t → t + 500000000 * (ks.length : Int) ≤ 1000000000000 →
  (la = -1 ∨ (0 ≤ la ∧ la ≤ 2000000000000)) → 0 ≤ s → s + (ks.length : Int) ≤ 1000000 →
  Uo items need row fr ks s la = s + EY need l w (ks.map (nth items)) (if la < 0 then none else some la) t ∧ 0 ≤ Uo items need row fr ks s la ∧ Uo items need row fr ks s la ≤ s + (ks.length : Int)
 | [],s,la,t,_,_,_,_,_,_,h1,_=>by rw [Uo,List.map_nil,EY]; simp; omega
 | k :: ks,s,la,t,hk,hr,hf,h0,hb,hla,hs,hsb=>by
  obtain ⟨k0,k1⟩:=hk k (by simp)
  have hgk:=BS hg k0 k1
  have hnx:=Zc hgk t
  have hrk:=hr k (by simp)
  obtain ⟨f1,f2⟩:=hf
  simp only [List.length_cons] at hb hsb
  push_cast at hb hsb
  have ih:=fun s la h1 h2 h3=>GK need l w row fr ks s la (Up (nth items k) t) (fun z hz=>hk z (by simp [hz])) (fun z hz=>hr z (by simp [hz])) f2 (by omega) (by omega) h1 h2 h3
  rw [List.map_cons,EY]
  simp only [List.length_cons]
  push_cast
  cases hw : Qs l w (nth items k) with
  | nil =>
   rw [Uo,hrk,hw]
   simp only [spn,if_true]
   obtain ⟨i1,i2,i3⟩:=ih s la hla hs (by omega)
   exact ⟨i1,i2,by omega⟩
  | cons h r =>
   have hh1:=BQ hgk (l:=l) (w:=w) (x:=h) (by rw [hw]; simp)
   have hh2:=BQ hgk (l:=l) (w:=w) (x:=lst h r) (by rw [hw]; exact AP r h)
   obtain ⟨b1,b2,b3⟩:=Xc hgk hh1.1 hh1.2
   obtain ⟨c1,c2,c3⟩:=Xc hgk hh2.1 hh2.2
   have hg2:=hgk
   unfold Mg at hg2
   rw [hw] at hrk
   have hq:=HM (items:=items) (need:=need) (row:=row) (fr:=fr) (k:=k) (ks:=ks) (s:=s) (la:=la) (t + (h - 1) * ((nth items k).Long + (nth items k).Gap)) (t + (lst h r - 1) * ((nth items k).Long + (nth items k).Gap) + (nth items k).Long) (by rw [hrk]; show lst h r ≠ 0; omega)
    (by rw [hrk]; show W (nth fr k + Hc (nth items k) h) = _; rw [f1,b1,Km (by omega) (by omega)])
    (by rw [hrk]; show W (W (nth fr k + Hc (nth items k) (lst h r)) + _) = _; rw [f1,c1,Km (n:=t + (lst h r - 1) * _) (by omega) (by omega),Km (by omega) (by omega)])
   rw [hq]
   simp only
   have hs' : (if 0 ≤ la ∧ W (t + (h - 1) * ((nth items k).Long + (nth items k).Gap) - la) < need then W (s + 1) else s) = s + Xl need (if la < 0 then none else some la) (t + (h - 1) * ((nth items k).Long + (nth items k).Gap)):=by
    rw [Km (n:=s + 1) (by omega) (by omega)]
    by_cases hl : la < 0
    ·rw [if_neg (fun e=>by omega),if_pos hl]; simp [Xl]
    ·rw [if_neg hl,Km (n:=_ - la) (by omega) (by omega)]
     unfold Xl
     simp only
     by_cases hc : t + (h - 1) * ((nth items k).Long + (nth items k).Gap) - la < need
     ·rw [if_pos ⟨by omega,hc⟩,if_pos hc]
     ·rw [if_neg fun e=>hc e.2,if_neg hc]; omega
   have hgp : 0 ≤ Xl need (if la < 0 then none else some la) (t + (h - 1) * ((nth items k).Long + (nth items k).Gap)) ∧ Xl need (if la < 0 then none else some la) (t + (h - 1) * ((nth items k).Long + (nth items k).Gap)) ≤ 1:=by
    unfold Xl
    split
    ·split <;> omega
    ·omega
   rw [hs']
   generalize Xl need (if la < 0 then none else some la) (t + (h - 1) * ((nth items k).Long + (nth items k).Gap)) = gp at *
   obtain ⟨i1,i2,i3⟩:=ih (s + gp) (t + (lst h r - 1) * ((nth items k).Long + (nth items k).Gap) + (nth items k).Long) (.inr ⟨by omega,by omega⟩) (by omega) (by omega)
   rw [if_neg (show ¬ t + (lst h r - 1) * ((nth items k).Long + (nth items k).Gap) + (nth items k).Long < 0 by omega)] at i1
   exact ⟨by rw [i1]; omega,i2,by omega⟩
theorem GL (need : Int) (l : List Ex) (fr now : List Int) (hn : InR items.length now) (hr : ∀ w,∀ k ∈ now,nth (Ti items l w) k = spn (Qs l w (nth items k))) (hf : FrOk items fr now 0) (hb : now.length ≤ 1000) : ∀ (ws : List ByteArray) (s : Int),0 ≤ s → s + (now.length : Int) * (ws.length : Int) ≤ 100000 →
  DG items need fr now (ws.map (Ti items l)) s = s + (ws.map fun w=>EY need l w (now.map (nth items)) none 0).sum
 | [],s,_,_=>by simp [DG]
 | w :: ws,s,h0,h1=>by
  simp only [List.length_cons] at h1
  push_cast at h1
  rw [Int.mul_add,Int.mul_one] at h1
  have hp : 0 ≤ (now.length : Int) * (ws.length : Int):=Int.mul_nonneg (by omega) (by omega)
  obtain ⟨i1,i2,i3⟩:=GK hg need l w (Ti items l w) fr now s (-1) 0 hn (hr w) hf (by omega) (by omega) (.inl rfl) h0 (by omega)
  rw [if_pos (by omega)] at i1
  rw [List.map_cons,DG,GL need l fr now hn hr hf hb ws _ i2 (by omega),i1,List.map_cons,List.sum_cons]
  omega
end ord
theorem ME {α : Type} (f : α → Int) {l l' : List α} (h : l.Perm l') : (l.map f).sum = (l'.map f).sum:=by
 induction h with
 | nil=>rfl
 | cons x _ ih=>simp only [List.map_cons,List.sum_cons,ih]
 | swap x y l=>simp only [List.map_cons,List.sum_cons]; omega
 | trans _ _ ih1 ih2=>exact ih1.trans ih2
theorem Wt (s : List An) : (Qt 0 s.length).map (nth s) = s:=by
 refine List.ext_getElem? fun i=>?_
 unfold Qt
 rw [List.map_map,List.getElem?_map]
 by_cases h : i < s.length
 ·rw [List.getElem?_range' h,Option.map_some,List.getElem?_eq_getElem h]
  simp only [Function.comp,Nat.zero_add,Nat.one_mul]
  rw [Oc (List.getElem?_eq_getElem h)]
 ·rw [List.getElem?_eq_none (by simp; omega),List.getElem?_eq_none (by omega)]
  rfl
theorem DN {α : Type} [DecidableEq α] : ∀ (r : List α) (p : α),(nbF p r).length ≤ r.length
 | [],_=>Nat.le_refl _
 | y :: r,p=>by
  have:=DN r y
  rw [nbF]
  split <;> simp only [List.length_cons] <;> omega
theorem leaf_is {s : List An} {l : List Ex} {need : Int} (hg : ∀ x ∈ s,Mg x) (hd : s.Pairwise fun a b=>a.Key ≠ b.Key) (hs8 : s.length ≤ 8) (hl : l.length ≤ 1000) (hs : l.Pairwise fun a b=>cC a b < 0)
  (hcv : ∀ c ∈ l,∃ (k : Nat) (it : An),Ez s c.Item = (k : Int) ∧ s[k]? = some it ∧ it.Key = c.Item ∧ 1 ≤ c.Heat ∧ c.Heat ≤ it.Heats) {now : List Int} (hp : now.Perm (Qt 0 s.length)) :
  (Tq s need (Ps s need none l (0,[])).1 (Ps s need none l (0,[])).2 now).1 = ((nb (l.map (·.Who))).map fun w=>Xm need none (Th (tt (now.map (nth s)) 0) l w)).sum:=by
 have hn : InR s.length now:=fun k hk=>Vs _ k (hp.mem_iff.1 hk)
 have hnl : now.length = s.length:=by rw [hp.length_eq,Qz]
 have hnd : now.Nodup:=by
  rw [hp.nodup_iff]
  unfold Qt
  refine List.Pairwise.map _ (fun a b h e=>h ?_) (List.nodup_range' (s:=0) (n:=s.length))
  exact Int.ofNat.inj e
 have hle : l.Pairwise fun a b=>leB a.Who b.Who:=hs.imp fun {a b} h=>by
  rw [HD] at h
  rcases h with h | ⟨h,_⟩
  ·exact .inl h
  ·exact .inr h
 have hkey : ∀ {y z : An},y ∈ s → z ∈ s → y.Key = z.Key → y = z:=fun {y z} hy hz e=>by
  obtain ⟨i,hi⟩:=List.getElem?_of_mem hy
  obtain ⟨j,hj⟩:=List.getElem?_of_mem hz
  obtain ⟨i1,i2⟩:=List.getElem?_eq_some_iff.1 hi
  obtain ⟨j1,j2⟩:=List.getElem?_eq_some_iff.1 hj
  rw [List.pairwise_iff_getElem] at hd
  rcases Nat.lt_trichotomy i j with h | h | h
  ·exact absurd (by rw [i2,j2]; exact e) (hd i j i1 j1 h)
  ·subst h; rw [← i2,← j2]
  ·exact absurd (by rw [i2,j2]; exact e.symm) (hd j i j1 i1 h)
 have hheat : ∀ y ∈ s,∀ c ∈ l,c.Item = y.Key → 1 ≤ c.Heat ∧ c.Heat ≤ y.Heats:=fun y hy c hc e=>by
  obtain ⟨k,it,_,k2,k3,k4,k5⟩:=hcv c hc
  have : it = y:=hkey (List.mem_of_getElem? k2) hy (by rw [k3,e])
  subst this
  exact ⟨k4,k5⟩
 have hhC : ∀ w,∀ y ∈ s,hC l w y.Key = Qs l w y:=fun w y hy=>MC hs (hheat y hy)
 obtain ⟨g1,g2,g3,g4⟩:=LY (need:=need) hd hg (by omega) hle (fun c hc=>by obtain ⟨k,it,k1,k2,k3,_⟩:=hcv c hc; exact ⟨k,it,k1,k2,k3⟩) (fun c hc=>by
  obtain ⟨k,it,_,k2,k3,k4,k5⟩:=hcv c hc
  have:=hg it (List.mem_of_getElem? k2)
  unfold Mg at this
  omega) l [] (0,[]) rfl rfl rfl ⟨by omega,by simp⟩
 have hp0 : (([] : List Ex).getLast?.map (·.Who)) = none:=rfl
 rw [hp0] at g1 g2 g3 g4
 have hws : (nb (l.map (·.Who))).length ≤ l.length:=by
  cases hq : l.map (·.Who) with
  | nil=>simp [nb]
  | cons p r =>
   have:=DN r p
   have h2 : (l.map (·.Who)).length = r.length + 1:=by rw [hq]; rfl
   rw [List.length_map] at h2
   show (nbF p r).length + 1 ≤ _
   omega
 have hmul : (now.length : Int) * ((nb (l.map (·.Who))).length : Int) ≤ 8 * 1000:=Int.mul_le_mul (by omega) (by omega) (by omega) (by omega)
 unfold Tq
 simp only
 rw [g1,GL hg need l _ now hn (fun w k hk=>by
  obtain ⟨k0,k1⟩:=hn k hk
  obtain ⟨n,rfl⟩:=Int.eq_ofNat_of_zero_le k0
  have hlt : n < s.length:=by omega
  have e1 : s[n]? = some s[n]:=List.getElem?_eq_getElem hlt
  rw [Oc e1,← hhC w s[n] (List.getElem_mem hlt)]
  refine Oc ?_
  unfold Ti
  rw [List.getElem?_map,e1]; rfl) (JA hg now _ 0 0 hnd hn (by simp) (by omega) (by omega)) (by omega) _ _ g3 (by omega),g2]
 have hM : (now.map (nth s)).Perm s:=by
  have:=hp.map (nth s)
  rw [Wt] at this
  exact this
 have hper : ∀ w,Xm need none (Th (tt (now.map (nth s)) 0) l w) = inW need s l w + EY need l w (now.map (nth s)) none 0:=fun w=>by
  rw [IV,EZ]
  congr 1
  rw [ME _ hM]
  unfold inW
  have e : (s.map fun y=>cI need y.Long y.Gap (hC l w y.Key)) = s.map fun y=>cI need y.Long y.Gap (Qs l w y):=List.map_congr_left fun y hy=>by rw [hhC w y hy]
  rw [e]
 rw [List.map_congr_left fun w _=>hper w]
 generalize nb (l.map (·.Who)) = ws
 induction ws with
 | nil=>rfl
 | cons w ws ih=>simp only [List.map_cons,List.sum_cons]; omega
end Go.Proofs.YtlndicofaomdaaaGreatDoor
namespace Go.Proofs.YtlndicofaomdaaaGreatDoor
open Go
def Zd (f : List Int → List Int → List (List Int)) (now rest : List Int) : List Int → Nat → List (List Int)
 | [],_=>[]
 | y :: ys,i=>f (now ++ [y]) (rest.eraseIdx i) ++ Zd f now rest ys (i + 1)
def Xr : Nat → List Int → List Int → List (List Int)
 | 0,_,_=>[]
 | m + 1,now,rest=>if rest = [] then [now] else Zd (Xr m) now rest rest 0
def Ur (leaf : List Int → Int × Int) : List (List Int) → Acc → Acc
 | [],a=>a
 | p :: ps,a=>Ur leaf ps (Yc a p (leaf p))
theorem DO (leaf : List Int → Int × Int) : ∀ (p q : List (List Int)) (a : Acc),Ur leaf (p ++ q) a = Ur leaf q (Ur leaf p a)
 | [],_,_=>rfl
 | x :: p,q,a=>by rw [List.cons_append,Ur,Ur,DO leaf p q]
theorem DP (leaf : List Int → Int × Int) : ∀ (m : Nat) (now rest : List Int) (a : Acc),Yd leaf m now rest a = Ur leaf (Xr m now rest) a
 | 0,_,_,_=>rfl
 | m + 1,now,rest,a=>by
  rw [Yd,Xr]
  split
  ·rfl
  ·have loop : ∀ (ys : List Int) (i : Nat) (b : Acc),CG (Yd leaf m) now rest ys i b = Ur leaf (Zd (Xr m) now rest ys i) b:=by
    intro ys
    induction ys with
    | nil=>intro i b; rfl
    | cons y ys ih=>intro i b; rw [CG,Zd,DO,DP leaf m,ih]
   exact loop rest 0 a
theorem Zt (f : List Int → List Int → List (List Int)) (now rest p : List Int) : ∀ (ys : List Int) (i : Nat),p ∈ Zd f now rest ys i ↔ ∃ (k : Nat) (y : Int),ys[k]? = some y ∧ p ∈ f (now ++ [y]) (rest.eraseIdx (i + k))
 | [],i=>by simp [Zd]
 | y :: ys,i=>by
  rw [Zd,List.mem_append,Zt f now rest p ys (i + 1)]
  constructor
  ·rintro (h | ⟨k,z,h1,h2⟩)
   ·exact ⟨0,y,rfl,h⟩
   ·exact ⟨k + 1,z,by simpa using h1,by rw [show i + (k + 1) = i + 1 + k by omega]; exact h2⟩
  ·rintro ⟨k,z,h1,h2⟩
   cases k with
   | zero=>simp only [List.getElem?_cons_zero,Option.some.injEq] at h1; subst h1; exact .inl h2
   | succ k=>exact .inr ⟨k,z,by simpa using h1,by rw [show i + 1 + k = i + (k + 1) by omega]; exact h2⟩
theorem Tr : ∀ (l : List Int) (k : Nat) (y : Int),l[k]? = some y → (y :: l.eraseIdx k).Perm l
 | [],_,_,h=>by simp at h
 | x :: l,0,y,h=>by simp only [List.getElem?_cons_zero,Option.some.injEq] at h; subst h; exact List.Perm.refl _
 | x :: l,k + 1,y,h=>by
  rw [List.eraseIdx_cons_succ]
  exact (List.Perm.swap x y _).trans ((Tr l k y (by simpa using h)).cons x)
theorem Xd : ∀ (m : Nat) (now rest p : List Int),rest.length < m → (p ∈ Xr m now rest ↔ ∃ q,p = now ++ q ∧ q.Perm rest)
 | 0,_,_,_,h=>absurd h (by omega)
 | m + 1,now,rest,p,h=>by
  rw [Xr]
  by_cases h0 : rest = []
  ·rw [if_pos h0,List.mem_singleton,h0]
   constructor
   ·intro e; exact ⟨[],by rw [e,List.append_nil],List.Perm.refl _⟩
   ·rintro ⟨q,e,hq⟩; rw [List.perm_nil.1 hq,List.append_nil] at e; exact e
  ·rw [if_neg h0,Zt]
   have hlen : ∀ {k : Nat} {y : Int},rest[k]? = some y → (rest.eraseIdx k).length < m:=fun {k y} hk=>by
    have:=(Tr rest k y hk).length_eq
    simp only [List.length_cons] at this
    omega
   constructor
   ·rintro ⟨k,y,h1,h2⟩
    rw [Nat.zero_add,Xd m _ _ _ (hlen h1)] at h2
    obtain ⟨q,e,hq⟩:=h2
    exact ⟨y :: q,by rw [e]; simp,(hq.cons y).trans (Tr rest k y h1)⟩
   ·rintro ⟨q,e,hq⟩
    cases q with
    | nil=>exact absurd (List.nil_perm.1 hq) h0
    | cons y q =>
     obtain ⟨k,hk⟩:=List.mem_iff_getElem?.1 (hq.mem_iff.1 (List.mem_cons_self (a:=y) (l:=q)))
     refine ⟨k,y,hk,?_⟩
     rw [Nat.zero_add,Xd m _ _ _ (hlen hk)]
     exact ⟨q,by rw [e]; simp,(hq.trans (Tr rest k y hk).symm).cons_inv⟩
def AL : List Int → List Int → Prop
 | [],_=>False
 | _ :: _,[]=>False
 | a :: l,b :: r=>a < b ∨ a = b ∧ AL l r
theorem GM : ∀ (n a b : List Int),AL (n ++ a) (n ++ b) ↔ AL a b
 | [],_,_=>Iff.rfl
 | x :: n,a,b=>by
  rw [List.cons_append,List.cons_append,AL,GM n a b]
  constructor
  ·rintro (h | ⟨_,h⟩)
   ·omega
   ·exact h
  ·intro h; exact .inr ⟨rfl,h⟩
theorem DQ (f : List Int → List Int → List (List Int)) (now rest : List Int) : ∀ (ys : List Int) (i : Nat),(ys.Pairwise fun a b=>a < b) → (∀ (k : Nat) (y : Int),ys[k]? = some y → (f (now ++ [y]) (rest.eraseIdx (i + k))).Pairwise AL ∧ ∀ p ∈ f (now ++ [y]) (rest.eraseIdx (i + k)),∃ q,p = now ++ [y] ++ q) →
  (Zd f now rest ys i).Pairwise AL
 | [],_,_,_=>List.Pairwise.nil
 | y :: ys,i,h,hf=>by
  rw [List.pairwise_cons] at h
  rw [Zd,List.pairwise_append]
  refine ⟨(hf 0 y rfl).1,DQ f now rest ys (i + 1) h.2 fun k z hz=>?_,fun p hp q hq=>?_⟩
  ·have:=hf (k + 1) z (by simpa using hz)
   rw [show i + (k + 1) = i + 1 + k by omega] at this
   exact this
  ·obtain ⟨k,z,h1,h2⟩:=(Zt f now rest q ys (i + 1)).1 hq
   have h3:=(hf (k + 1) z (by simpa using h1)).2 q (by rw [show i + (k + 1) = i + 1 + k by omega]; exact h2)
   obtain ⟨q1,rfl⟩:=(hf 0 y rfl).2 p hp
   obtain ⟨q2,rfl⟩:=h3
   rw [List.append_assoc,List.append_assoc,GM]
   exact .inl (h.1 z (List.mem_of_getElem? h1))
theorem DR : ∀ (m : Nat) (now rest : List Int),rest.length < m → (rest.Pairwise fun a b=>a < b) → (Xr m now rest).Pairwise AL
 | 0,_,_,h,_=>absurd h (by omega)
 | m + 1,now,rest,h,hr=>by
  rw [Xr]
  split
  ·exact List.pairwise_singleton _ _
  ·refine DQ _ now rest rest 0 hr fun k y hk=>?_
   have hlen : (rest.eraseIdx (0 + k)).length < m:=by
    have:=(Tr rest k y hk).length_eq
    simp only [List.length_cons] at this
    rw [Nat.zero_add]
    omega
   refine ⟨DR m _ _ hlen (hr.sublist (List.eraseIdx_sublist ..)),fun p hp=>?_⟩
   obtain ⟨q,e,_⟩:=(Xd m _ _ _ hlen).1 hp
   exact ⟨q,e⟩
def lt2 (v w : Int × Int) : Prop:=v.1 < w.1 ∨ v.1 = w.1 ∧ v.2 < w.2
instance (v w : Int × Int) : Decidable (lt2 v w):=inferInstanceAs (Decidable (v.1 < w.1 ∨ v.1 = w.1 ∧ v.2 < w.2))
theorem KH {a b c : Int × Int} (h1 : lt2 a b) (h2 : lt2 b c) : lt2 a c:=by unfold lt2 at *; omega
theorem lt2_not {a b c : Int × Int} (h1 : lt2 a b) (h2 : ¬ lt2 c b) : lt2 a c:=by unfold lt2 at *; omega
def MF (leaf : List Int → Int × Int) (ps : List (List Int)) (p : List Int) : Prop:=∃ l1 l2,ps = l1 ++ p :: l2 ∧ (∀ q ∈ l1,lt2 (leaf p) (leaf q)) ∧ ∀ q ∈ l2,¬ lt2 (leaf q) (leaf p)
def Vy (leaf : List Int → Int × Int) (p : List Int) : Acc:=(p,(leaf p).1,(leaf p).2,true)
theorem DS {a : Acc} {leaf : List Int → Int × Int} {p : List Int} : Yc a p (leaf p) = if a.2.2.2 = false ∨ lt2 (leaf p) (a.2.1,a.2.2.1) then Vy leaf p else a:=rfl
theorem Ye (leaf : List Int → Int × Int) : ∀ (ps : List (List Int)) (p0 : List Int),(Ur leaf ps (Vy leaf p0) = Vy leaf p0 ∧ ∀ q ∈ ps,¬ lt2 (leaf q) (leaf p0)) ∨ ∃ p,Ur leaf ps (Vy leaf p0) = Vy leaf p ∧ MF leaf ps p ∧ lt2 (leaf p) (leaf p0)
 | [],p0=>.inl ⟨rfl,fun _ h=>by cases h⟩
 | q :: ps,p0=>by
  rw [Ur,DS]
  have e : (Vy leaf p0).2.2.2 = false ∨ lt2 (leaf q) ((Vy leaf p0).2.1,(Vy leaf p0).2.2.1) ↔ lt2 (leaf q) (leaf p0):=⟨fun h=>h.resolve_left (fun e=>by cases e),.inr⟩
  by_cases h : lt2 (leaf q) (leaf p0)
  ·rw [if_pos (e.2 h)]
   rcases Ye leaf ps q with ⟨h1,h2⟩ | ⟨p,h1,⟨l1,l2,rfl,g1,g2⟩,h3⟩
   ·exact .inr ⟨q,h1,⟨[],ps,rfl,(fun _ h=>by cases h),h2⟩,h⟩
   ·refine .inr ⟨p,h1,⟨q :: l1,l2,rfl,fun z hz=>?_,g2⟩,KH h3 h⟩
    rcases List.mem_cons.1 hz with rfl | hz
    ·exact h3
    ·exact g1 z hz
  ·rw [if_neg fun h'=>h (e.1 h')]
   rcases Ye leaf ps p0 with ⟨h1,h2⟩ | ⟨p,h1,⟨l1,l2,rfl,g1,g2⟩,h3⟩
   ·refine .inl ⟨h1,fun z hz=>?_⟩
    rcases List.mem_cons.1 hz with rfl | hz
    ·exact h
    ·exact h2 z hz
   ·refine .inr ⟨p,h1,⟨q :: l1,l2,rfl,fun z hz=>?_,g2⟩,h3⟩
    rcases List.mem_cons.1 hz with rfl | hz
    ·exact lt2_not h3 h
    ·exact g1 z hz
theorem HN (leaf : List Int → Int × Int) {ps : List (List Int)} (hne : ps ≠ []) (a : Acc) (ha : a.2.2.2 = false) : ∃ p,Ur leaf ps a = Vy leaf p ∧ MF leaf ps p:=by
 cases ps with
 | nil=>exact absurd rfl hne
 | cons q ps =>
  rw [Ur,DS,if_pos (.inl ha)]
  rcases Ye leaf ps q with ⟨h1,h2⟩ | ⟨p,h1,⟨l1,l2,rfl,g1,g2⟩,h3⟩
  ·exact ⟨q,h1,[],ps,rfl,(fun _ h=>by cases h),h2⟩
  ·refine ⟨p,h1,q :: l1,l2,rfl,fun z hz=>?_,g2⟩
   rcases List.mem_cons.1 hz with rfl | hz
   ·exact h3
   ·exact g1 z hz
theorem nums_up (i : Nat) : ∀ n : Nat,(Qt i n).Pairwise fun a b=>a < b:=fun n=>by
 unfold Qt
 rw [List.pairwise_map]
 exact (List.pairwise_lt_range' (s:=i) (n:=n)).imp fun h=>by omega
theorem JB (s : List An) (c : List Ex) (need : Int) (hs : s.length ≤ 8) : ∃ p,Uq s c need = Vy (Tq s need (Ps s need none c (0,[])).1 (Ps s need none c (0,[])).2) p ∧ p.Perm (Qt 0 s.length) ∧
  ∀ q,q.Perm (Qt 0 s.length) → ¬ lt2 (Tq s need (Ps s need none c (0,[])).1 (Ps s need none c (0,[])).2 q) (Tq s need (Ps s need none c (0,[])).1 (Ps s need none c (0,[])).2 p) ∧ (q = p ∨ AL p q ∨ lt2 (Tq s need (Ps s need none c (0,[])).1 (Ps s need none c (0,[])).2 p) (Tq s need (Ps s need none c (0,[])).1 (Ps s need none c (0,[])).2 q)):=by
 unfold Uq
 generalize Tq s need (Ps s need none c (0,[])).1 (Ps s need none c (0,[])).2 = leaf
 have hm : ∀ q,q ∈ Xr 16 [] (Qt 0 s.length) ↔ q.Perm (Qt 0 s.length):=fun q=>by
  rw [Xd 16 [] _ q (by rw [Qz]; omega)]
  constructor
  ·rintro ⟨z,rfl,h⟩; exact h
  ·intro h; exact ⟨q,rfl,h⟩
 have hlex:=DR 16 [] (Qt 0 s.length) (by rw [Qz]; omega) (nums_up 0 _)
 obtain ⟨p,h1,l1,l2,h2,g1,g2⟩:=HN leaf (ps:=Xr 16 [] (Qt 0 s.length)) (fun e=>by
  have:=(hm (Qt 0 s.length)).2 (List.Perm.refl _)
  rw [e] at this
  cases this) ([],0,0,false) rfl
 refine ⟨p,by rw [DP]; exact h1,(hm p).1 (by rw [h2]; simp),fun q hq=>?_⟩
 have hq:=(hm q).2 hq
 rw [h2] at hq hlex
 rw [List.pairwise_append,List.pairwise_cons] at hlex
 rcases List.mem_append.1 hq with hq | hq
 ·have:=g1 q hq
  exact ⟨fun h=>by unfold lt2 at *; omega,.inr (.inr this)⟩
 ·rcases List.mem_cons.1 hq with rfl | hq
  ·exact ⟨fun h=>by unfold lt2 at *; omega,.inl rfl⟩
  ·exact ⟨g2 q hq,.inr (.inl (hlex.2.1.1 q hq))⟩
end Go.Proofs.YtlndicofaomdaaaGreatDoor
namespace Go.Proofs.YtlndicofaomdaaaGreatDoor
open Go
def cnt (K : List ByteArray) : List ByteArray → Nat
 | []=>0
 | a :: A=>(K.filter fun b=>decide (cB a b < 0)).length + cnt K A
end Go.Proofs.YtlndicofaomdaaaGreatDoor
namespace Go.Proofs.YtlndicofaomdaaaGreatDoor
open Go
def Dr {α : Type} (a k : Int) (Q : α → Prop) (o : Option (α × Int)) : Prop:=∃ v b,o = some (v,b) ∧ a ≤ b ∧ b ≤ a + k ∧ Q v
abbrev Xs (L : List Int) : Prop:=(L.length : Int) ≤ 9223372036854775807
section
variable {L : List Int} (hL : Xs L) {a : Int} (h0 : 0 ≤ a) (h1 : a ≤ 1000000000000)
include hL h0 h1
theorem FC (n : Int) (hn : n ≤ 4611686018427387904) : Dr a 1 (fun v=>0 ≤ v ∧ (v < n ∨ (n < 1 ∧ v = 0))) (Mc L a n):=by
 obtain ⟨v,e,g⟩:=Wz L a n h0 (by omega) hL hn
 exact ⟨v,a + 1,e,by omega,by omega,g⟩
theorem Ze (l : List Int) (hl : 0 < l.length) (hl' : l.length ≤ 1000) : Dr a 1 (fun v=>v ∈ l) (Mr L a l):=by
 obtain ⟨v,e,g⟩:=IE L a l h0 (by omega) hL hl hl'
 exact ⟨v,a + 1,e,by omega,by omega,g⟩
theorem Zf (n : Int) (hn : n ≤ 4611686018427387904) : Dr a 1 (fun _=>True) (Mq L a n):=by
 obtain ⟨v,e⟩:=IF L a n h0 (by omega) hL hn
 exact ⟨v,a + 1,e,by omega,by omega,trivial⟩
theorem AR (l : List ByteArray) (hl : 0 < l.length) (hl' : l.length ≤ 1000) : Dr a 1 (fun v=>v ∈ l) (Pn L a l):=by
 obtain ⟨v,e1,h1,h2⟩:=Wz L a (l.length : Int) h0 (by omega) hL (by omega)
 have hc : inB v l.length = true:=Hu.2 ⟨h1,by omega⟩
 unfold Pn
 rw [e1]
 simp only [Option.bind_some]
 rw [Lh hc]
 exact ⟨nth l v,a + 1,rfl,by omega,by omega,List.mem_of_getElem? (Ff hc).1⟩
theorem GN (low high : Int) (h2 : -1000000000000 ≤ low) (h3 : low ≤ 1000000000000) (h4 : high ≤ 1000000000000) : Dr a 1 (fun v=>low ≤ v ∧ (v ≤ high ∨ v = low)) (Oh L a low high):=by
 unfold Oh
 by_cases h : high < low
 ·exact ⟨low,a,by simp [h],by omega,by omega,by omega,.inr rfl⟩
 ·have w1 : W (high - low) = high - low:=Km (by omega) (by omega)
  have w2 : W (high - low + 1) = high - low + 1:=Km (by omega) (by omega)
  obtain ⟨v,e,g1,g2⟩:=Wz L a (high - low + 1) h0 (by omega) hL (by omega)
  rw [if_neg (by simpa using h),w1,w2,e]
  have w3 : W (low + v) = low + v:=Km (by omega) (by omega)
  exact ⟨_,_,rfl,by show a ≤ a + 1; omega,by show a + 1 ≤ a + 1; omega,by simp only [w3]; omega⟩
theorem BT (low high : Int) (h2 : -1000000000000 ≤ low) (h3 : low ≤ 1000000000000) (h4 : high ≤ 1000000000000) : Dr a 2 (fun _=>True) (Po L a low high):=by
 obtain ⟨b,e1⟩:=IF L a 12 h0 (by omega) hL (by omega)
 unfold Po
 rw [e1]
 simp only [Option.bind_some]
 cases b with
 | true =>
  obtain ⟨v,e,_⟩:=IE L (a + 1) [W (low - 1),W (high + 1),low,high,(-1099511627776),1099511627776] (by omega) (by omega) hL (by simp) (by simp)
  rw [if_pos rfl,e]
  exact ⟨_,_,rfl,by show a ≤ a + 1 + 1; omega,by show a + 1 + 1 ≤ a + 2; omega,trivial⟩
 | false =>
  unfold Oh
  by_cases h : high < low
  ·rw [if_neg (by simp),if_pos (by simpa using h)]
   exact ⟨_,_,rfl,by show a ≤ a + 1; omega,by show a + 1 ≤ a + 2; omega,trivial⟩
  ·have w1 : W (high - low) = high - low:=Km (by omega) (by omega)
   have w2 : W (high - low + 1) = high - low + 1:=Km (by omega) (by omega)
   obtain ⟨v,e,g1,g2⟩:=Wz L (a + 1) (high - low + 1) (by omega) (by omega) hL (by omega)
   rw [if_neg (by simp),if_neg (by simpa using h),w1,w2,e]
   exact ⟨_,_,rfl,by show a ≤ a + 1 + 1; omega,by show a + 1 + 1 ≤ a + 2; omega,trivial⟩
end
end Go.Proofs.YtlndicofaomdaaaGreatDoor
