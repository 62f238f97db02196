/- The plain law of OrdersAreBest. No program stands here but its twins. -/
import Derived.Test.YtombbefepcipcaaGreatDoorPHeatsDoNotOverlap
namespace Go.Proofs.YtombbefepcipcaaGreatDoor
open Go
theorem FQ (x y : An) : ltI x y = decide (cB x.Key y.Key < 0):=by
 unfold ltI Ih
 rw [JB]
 by_cases h : cB x.Key y.Key < 0 <;> simp [h]
theorem own_asc (items : List An) (hd : items.Pairwise fun a b=>a.Key ≠ b.Key) : (Jv ltI items).Pairwise fun a b=>cB a.Key b.Key < 0:=by
 have h:=BC (lt:=ltI) (fun x y z h1 h2=>by rw [FQ] at *; exact decide_eq_true (Uj (of_decide_eq_true h1) (of_decide_eq_true h2))) items (hd.imp_of_mem fun {a b} _ _ hne h=>by
  rw [FQ] at *
  have h1:=of_decide_eq_false h
  have h2:=cB_flip a.Key b.Key
  have h3 : cB a.Key b.Key ≠ 0:=fun e=>hne (Yr e)
  exact decide_eq_true (by omega))
 exact h.imp_of_mem fun {a b} _ _ h=>by rw [FQ] at h; exact of_decide_eq_true h
def KI (items : List An) (c : Eh) : Prop:=∃ y ∈ items,c.Item = y.Key ∧ 1 ≤ c.Heat ∧ c.Heat ≤ y.Heats
section
variable {L : List Int} (hL : Xy L)
include hL
theorem DJ (items : List An) (w : ByteArray) (j : List Eh → Int → Option (List Eh × Int)) : ∀ (ys : List An) (i : Nat) (x : List Eh) (a : Int),0 ≤ a → a + 2 * ys.length ≤ 100000000 → x.length + ys.length ≤ 10000 → (∀ y ∈ ys,y ∈ items ∧ 1 ≤ y.Heats) → (ys.Pairwise fun a b=>cB a.Key b.Key < 0) →
  ∃ z b,Hu L w j ys i x a = j (x ++ z) b ∧ a ≤ b ∧ b ≤ a + 2 * ys.length ∧ z.length ≤ ys.length ∧ (∀ c ∈ z,c.Who = w ∧ KI items c ∧ ∃ y ∈ ys,c.Item = y.Key) ∧ z.Pairwise fun a b=>cC a b < 0
 | [],i,x,a,_,_,_,_,_=>⟨[],a,by rw [List.append_nil]; rfl,by omega,by simp,by simp,(fun _ h=>by cases h),List.Pairwise.nil⟩
 | y :: ys,i,x,a,h1,h2,h3,h4,h5=>by
  simp only [List.length_cons] at h2 h3 ⊢
  rw [List.pairwise_cons] at h5
  rw [Hu]
  simp only [Lz]
  obtain ⟨f,b1,e1,g1,g2,_⟩:=HE hL (a:=a) h1 (by omega) 2 (by omega)
  rw [e1]; simp only [Option.bind_some]
  cases hc : (f && decide (0 < y.Heats)) with
  | true =>
   rw [if_pos rfl]
   obtain ⟨h,b2,e2,g3,g4,g5,g6⟩:=EU hL (a:=b1) (by omega) (by omega) 1 (DL y.Heats 3) (by omega) (by omega) (by have:=imin3 y.Heats; omega)
   rw [e2]; simp only [Option.bind_some]
   rw [Li (by unfold Pj; simp; omega)]
   obtain ⟨z,b,r1,r2,r3,r4,r5,r6⟩:=DJ items w j ys (i + 1) (x ++ [Eh.mk w y.Key h]) b2 (by omega) (by omega) (by simp; omega) (fun z hz=>h4 z (List.mem_cons_of_mem _ hz)) h5.2
   obtain ⟨hy1,hy2⟩:=h4 y (by simp)
   have hh : h ≤ y.Heats:=by
    rcases g6 with g6 | g6
    ·unfold DL at g6
     split at g6 <;> omega
    ·omega
   refine ⟨Eh.mk w y.Key h :: z,b,by rw [r1]; simp,by omega,by omega,by simp; omega,fun c hc=>?_,List.pairwise_cons.2 ⟨fun c hc=>?_,r6⟩⟩
   ·rcases List.mem_cons.1 hc with rfl | hc
    ·exact ⟨rfl,⟨y,hy1,rfl,g5,hh⟩,y,by simp,rfl⟩
    ·obtain ⟨q1,q2,q,q3,q4⟩:=r5 c hc
     exact ⟨q1,q2,q,List.mem_cons_of_mem _ q3,q4⟩
   ·obtain ⟨q1,_,q,q3,q4⟩:=r5 c hc
    rw [Xo]
    refine .inr ⟨q1.symm,.inl ?_⟩
    show cB y.Key c.Item < 0
    rw [q4]
    exact h5.1 q q3
  | false =>
   rw [if_neg (by simp)]
   obtain ⟨z,b,r1,r2,r3,r4,r5,r6⟩:=DJ items w j ys (i + 1) x b1 (by omega) (by omega) (by omega) (fun z hz=>h4 z (List.mem_cons_of_mem _ hz)) h5.2
   exact ⟨z,b,r1,by omega,by omega,by omega,fun c hc=>by obtain ⟨q1,q2,q,q3,q4⟩:=r5 c hc; exact ⟨q1,q2,q,List.mem_cons_of_mem _ q3,q4⟩,r6⟩
theorem HF (items : List An) (hi : items.length ≤ 5) (hh : ∀ y ∈ items,1 ≤ y.Heats) (hd : items.Pairwise fun a b=>a.Key ≠ b.Key) : ∀ (ws : List ByteArray) (i : Nat) (x : List Eh) (a : Int),0 ≤ a → a + 10 * ws.length ≤ 10000000 → x.length + 5 * ws.length ≤ 1000 → (ws.Pairwise fun a b=>cB a b < 0) →
  ∃ z b,Hd items L (fun x a=>some (x,a)) ws i x a = some (x ++ z,b) ∧ a ≤ b ∧ b ≤ a + 10 * ws.length ∧ z.length ≤ 5 * ws.length ∧ (∀ c ∈ z,c.Who ∈ ws ∧ KI items c) ∧ (z.Pairwise fun a b=>cC a b < 0) ∧ ∀ who,(z.filter fun c=>decide (c.Who = who)).length ≤ 5 * (ws.filter fun w=>decide (w = who)).length
 | [],i,x,a,_,_,_,_=>⟨[],a,by rw [List.append_nil]; rfl,by omega,by simp,by simp,(fun _ h=>by cases h),List.Pairwise.nil,fun _=>by simp⟩
 | w :: ws,i,x,a,h1,h2,h3,h4=>by
  simp only [List.length_cons] at h2 h3 ⊢
  rw [List.pairwise_cons] at h4
  rw [Hd]
  unfold Lb
  rw [Li (by simp; omega)]
  simp only [Option.bind_some,List.nil_append]
  rw [KE items (by omega)]
  simp only [Option.bind_some,Lz]
  have hil:=Zn ltI items
  obtain ⟨z1,b1,e1,g1,g2,g3,g4,g4'⟩:=DJ hL items w (fun (x3 : List Eh) (x4 : Int)=>Hd items L (fun x a=>some (x,a)) ws (i + 1) x3 x4) (Jv ltI items) 0 x a h1 (by omega) (by omega) (fun y hy=>⟨(Ur _ _ _).1 hy,hh y ((Ur _ _ _).1 hy)⟩) (own_asc items hd)
  rw [e1]
  obtain ⟨z2,b2,e2,g5,g6,g7,g8,g9,g10⟩:=HF items hi hh hd ws (i + 1) (x ++ z1) b1 (by omega) (by omega) (by rw [List.length_append]; omega) h4.2
  refine ⟨z1 ++ z2,b2,by rw [e2]; simp,by omega,by omega,by rw [List.length_append]; omega,fun c hc=>?_,List.pairwise_append.2 ⟨g4',g9,fun p hp q hq=>?_⟩,fun who=>?_⟩
  ·rcases List.mem_append.1 hc with hc | hc
   ·obtain ⟨q1,q2,_⟩:=g4 c hc
    exact ⟨by rw [q1]; simp,q2⟩
   ·obtain ⟨q1,q2⟩:=g8 c hc
    exact ⟨List.mem_cons_of_mem _ q1,q2⟩
  ·rw [Xo]
   refine .inl ?_
   rw [(g4 p hp).1]
   exact h4.1 _ (g8 q hq).1
  ·have h5:=g10 who
   rw [List.filter_append,List.length_append,List.filter_cons]
   by_cases hw : w = who
   ·have h6:=List.length_filter_le (fun c : Eh=>decide (c.Who = who)) z1
    rw [if_pos (decide_eq_true hw),List.length_cons]
    omega
   ·have h6 : (z1.filter fun c=>decide (c.Who = who)) = []:=List.filter_eq_nil_iff.2 fun c hc=>by rw [(g4 c hc).1]; simpa using hw
    rw [if_neg (by simpa using hw),h6,List.length_nil]
    omega
theorem KJ {a : Int} (h0 : 0 ≤ a) (h1 : a ≤ 1000000) (items : List An) (hi : items.length ≤ 5) (hh : ∀ y ∈ items,1 ≤ y.Heats) (hd : items.Pairwise fun a b=>a.Key ≠ b.Key) :
  Dr a 30 (fun x=>x.length ≤ 15 ∧ (∀ c ∈ x,c.Who ∈ [Oc,Od,Oe] ∧ KI items c) ∧ (x.Pairwise fun a b=>cC a b < 0) ∧ ∀ who,(x.filter fun c=>decide (c.Who = who)).length ≤ 12) (Mf L a items):=by
 unfold Mf
 rw [Lz]
 obtain ⟨z,b,e,g1,g2,g3,g4,g5,g6⟩:=HF hL items hi hh hd [Oc,Od,Oe] 0 [] a h0 (by simp; omega) (by simp) (by decide +kernel)
 rw [List.nil_append] at e
 exact ⟨z,b,e,g1,by simp at g2; omega,by simp at g3; omega,g4,g5,fun who=>by have:=g6 who; have:=KF who; omega⟩
end
theorem DK : ∀ {l : List An} {y : An},y ∈ l → (l.Pairwise fun a b=>a.Key ≠ b.Key) → ∃ k,ixN l y.Key = some k ∧ l[k]? = some y
 | [],_,h,_=>by cases h
 | x :: xs,y,h,hd=>by
  rw [List.pairwise_cons] at hd
  rcases List.mem_cons.1 h with rfl | h
  ·exact ⟨0,by rw [ixN,if_pos rfl],rfl⟩
  ·obtain ⟨k,h1,h2⟩:=DK h hd.2
   exact ⟨k + 1,by rw [ixN,if_neg (hd.1 y h),h1]; rfl,by simpa using h2⟩
theorem KK {s : ByteArray} (h : s ∈ [Oc,Od,Oe]) : Jh s = some true:=by
 simp only [List.mem_cons,List.not_mem_nil,or_false] at h
 rcases h with rfl | rfl | rfl <;> decide +kernel
theorem cadj_of {l : List Eh} (h : l.Pairwise fun a b=>cC a b < 0) : FH l:=by
 intro dn p q ys e
 rw [e,List.pairwise_append,List.pairwise_cons] at h
 exact h.2.1.1 q (by simp)
theorem KL (items : List An) (hi : items.length ≤ 100) (l : List Eh) (hl : l.length ≤ 2000) (hk : ∀ c ∈ l,Jh c.Who = some true) (hcv : ∀ c ∈ l,∃ k y,CV items c k y) (ha : FH l) : ∀ (ys dn : List Eh),l = dn ++ ys → Hm items l (some 0) ys dn.length = some 0
 | [],_,_=>rfl
 | p :: ys,dn,e=>by
  have hlen : l.length = dn.length + (ys.length + 1):=by rw [e]; simp
  have hp : p ∈ l:=by rw [e]; simp
  obtain ⟨k,y,h⟩:=hcv p hp
  have hn : nth items (k : Int) = y:=Pi h.get
  have hkl:=CW h.ix
  have hix : Ea items p.Item = (k : Int):=by rw [Yq]; unfold ixI; rw [h.ix]
  have hin : En p.Heat 1 y.Heats = true:=by
   have:=h.h1; have:=h.h2
   unfold En
   simp only [Bool.and_eq_true,decide_eq_true_eq]
   omega
  have ih:=KL items hi l hl hk hcv ha ys (dn ++ [p]) (by rw [e]; simp)
  rw [List.length_append,List.length_singleton] at ih
  rw [Hm,hk p hp]
  simp only [Option.bind_some,Bool.not_true,Bool.false_eq_true,if_false,Lz]
  rw [hix,if_neg (by simp),Li (Iv.2 ⟨by omega,by omega⟩),hn,hin,ih]
  simp only [Bool.not_true,Bool.false_eq_true,if_false]
  rcases List.eq_nil_or_concat dn with hd | ⟨d,q,hd⟩
  ·rw [hd]; simp
  ·rw [List.concat_eq_append] at hd
   have hdl : dn.length = d.length + 1:=by rw [hd]; simp
   have hnq : nth l (W ((dn.length : Int) - 1)) = q:=by
    rw [Ks (by omega) (by omega),e,hd]
    have : d ++ [q] ++ p :: ys = d ++ q :: (p :: ys):=by simp
    rw [this]
    exact Ys _ _ _ (by simp)
   have hlt:=ha d q p ys (by rw [e,hd]; simp)
   rw [if_pos (decide_eq_true (by omega)),Li (Iv.2 (by rw [Ks (by omega) (by omega)]; omega)),hnq,Yg,decide_eq_false (show ¬ 0 ≤ cC q p by omega)]
   simp
theorem pass (items : List An) (hc : Iy items = some 0) (hi : items.length ≤ 100) (l : List Eh) (hl : l.length ≤ 2000) (hk : ∀ c ∈ l,Jh c.Who = some true) (hcv : ∀ c ∈ l,∃ k y,CV items c k y) (ha : FH l) : Iz items l = some 0:=by
 unfold Iz
 rw [hc]
 simp only [Option.bind_some,decide_true,Bool.not_true,Bool.false_eq_true,if_false]
 rw [if_neg (by simp; omega),Lz]
 exact KL items hi l hl hk hcv ha l [] rfl
theorem nt_le : ∀ (l : List An) (t : Int),(∀ x ∈ l,Kr x) → nt l t ≤ t + l.length * 500000000
 | [],t,_=>by simp [nt]
 | y :: ys,t,hg=>by
  have hy:=hg y (by simp)
  have h1:=Oj y hy y.Heats.toNat t
  have h2:=nt_le ys (Qf y y.Heats.toNat t + y.Break) fun x hx=>hg x (List.mem_cons_of_mem _ hx)
  unfold Kr at hy
  rw [nt]
  simp only [List.length_cons]
  push_cast
  omega
theorem Vy (a : Int) (l : List Int) : Fm (a :: l) = if a ≠ 0 then a else Fm l:=by
 have hl : ∀ (l : List Int) (i j : Nat),Hj 0 l i = Hj 0 l j:=by
  intro l
  induction l with
  | nil=>intro _ _; rfl
  | cons x l ih =>
   intro i j
   rw [Hj,Hj,ih (i + 1) (j + 1)]
 unfold Fm
 rw [Lz,Lz,Hj,hl l (0 + 1) 0]
 by_cases h : a = 0 <;> simp [h]
end Go.Proofs.YtombbefepcipcaaGreatDoor
namespace Go.Proofs.YtombbefepcipcaaGreatDoor
open Go
theorem KM (y : An) (hy : Kr y) : ∀ (k : Nat) (h t : Int) (s : Dx),s ∈ hs y k h t → t ≤ s.Time.From ∧ s.Time.From ≤ t + k * 7200000 ∧ t ≤ s.Time.To ∧ s.Time.To ≤ t + k * 7200000
 | 0,_,_,_,h=>by cases h
 | k + 1,h,t,s,hs'=>by
  unfold Kr at hy
  rcases List.mem_cons.1 hs' with rfl | h'
  ·simp only
   push_cast
   omega
  ·have:=KM y hy k _ _ s h'
   push_cast
   omega
theorem KN : ∀ (M : List An) (t : Int),(∀ x ∈ M,Kr x) → 0 ≤ t → t + 500000000 * (M.length : Int) ≤ 1000000000000 → InT (tt M t)
 | [],_,_,_,_=>fun _ h=>by cases h
 | y :: M,t,hg,h0,h1=>fun s hs'=>by
  have hy:=hg y (by simp)
  have hn:=Zu hy t
  simp only [List.length_cons] at h1
  push_cast at h1
  rw [tt] at hs'
  rcases List.mem_append.1 hs' with h | h
  ·have:=KM y hy _ _ _ s h
   unfold Kr at hy
   omega
  ·exact KN M (Uz y t) (fun x hx=>hg x (by simp [hx])) (by omega) (by omega) s h
theorem FR (key : ByteArray) : ∀ {l : List An} {k : Nat} {y : An},ixN l key = some k → l[k]? = some y → y.Key = key
 | q :: l,k,y,h,h2=>by
  rw [ixN] at h
  split at h
  ·rename_i hq
   obtain rfl:=Option.some.inj h
   simp at h2
   rw [← h2]; exact hq
  ·obtain ⟨k',h3,h4⟩:=Option.map_eq_some_iff.1 h
   subst h4
   exact FR key h3 (by simpa using h2)
theorem HG (v : ByteArray) : ∀ (l : List ByteArray) (i : Nat),(∀ x ∈ l,v ≠ x) → Hc v (-1) l i = -1
 | [],_,_=>rfl
 | y :: l,i,h=>by
  rw [Hc]
  rw [if_neg (by simpa using h y (by simp)),HG v l (i + 1) fun x hx=>h x (by simp [hx])]
theorem EW (v : ByteArray) (l : List ByteArray) (h : ∀ x ∈ l,v ≠ x) : Gn l v = false:=by
 unfold Gn Ms
 rw [Lz,HG v l 0 h]
 rfl
section
variable {items : List An} (hd : items.Pairwise fun a b=>a.Key ≠ b.Key)
include hd
theorem Xr {o : List An} (hp : o.Perm items) : o.Pairwise fun a b=>a.Key ≠ b.Key:=(hp.pairwise_iff (fun {_ _} h e=>h e.symm)).2 hd
theorem HH {o : List An} (hp : o.Perm items) (hi : items.length ≤ 100) (j : List An → Option ((List An) × Int)) : ∀ (ys dn : List An),o = dn ++ ys → Je items (o.map (·.Key)) j (ys.map (·.Key)) dn.length dn = j o
 | [],dn,e=>by rw [List.append_nil] at e; rw [e]; rfl
 | y :: ys,dn,e=>by
  have hl:=hp.length_eq
  have hl2 : o.length = dn.length + (ys.length + 1):=by rw [e]; simp
  have hy : y ∈ items:=hp.mem_iff.1 (by rw [e]; simp)
  obtain ⟨k,k1,k2⟩:=DK hy hd
  have hk : Ea items y.Key = (k : Int):=by rw [Yq]; unfold ixI; rw [k1]
  have hkl:=CW k1
  have hno : Gn (dn.map (·.Key)) y.Key = false:=EW _ _ fun x hx h=>by
   obtain ⟨z,hz,rfl⟩:=List.mem_map.1 hx
   have:=Xr hd hp
   rw [e,List.pairwise_append] at this
   exact this.2.2 z hz y (by simp) h.symm
  have hcut : cut (o.map (·.Key)) 0 (dn.length : Int) = dn.map (·.Key):=by
   rw [e,List.map_append]
   have:=cut_app (dn.map (·.Key)) ((y :: ys).map (·.Key))
   rw [List.length_map] at this
   exact this
  rw [List.map_cons,Je,hk,if_neg (by simp),Li (Pq.2 (by simp; omega)),hcut,hno,if_neg (by simp),Li (Iv.2 (by omega)),Li (by unfold Pj; simp; omega),Pi k2]
  have:=HH hp hi j ys (dn ++ [y]) (by rw [e]; simp)
  rw [List.length_append,List.length_singleton] at this
  exact this
theorem EX (hc : Iy items = some 0) (hi : items.length ≤ 100) {o : List An} (hp : o.Perm items) : Ml items (o.map (·.Key)) = some (o,0):=by
 unfold Ml
 rw [hc,Option.bind_some,if_neg (by simp),if_neg (by simp [hp.length_eq]),Lz]
 exact HH hd hp hi _ o [] rfl
end
theorem KO {α β : Type} (f : α → β) {a b : List β} (h : a.Perm b) : ∀ l : List α,b = l.map f → ∃ p : List α,p.Perm l ∧ p.map f = a:=by
 induction h with
 | nil=>intro l e; exact ⟨[],by rw [List.map_eq_nil_iff.1 e.symm],rfl⟩
 | cons x _ ih =>
  intro l e
  cases l with
  | nil=>cases e
  | cons z l =>
   rw [List.map_cons,List.cons.injEq] at e
   obtain ⟨p,h1,h2⟩:=ih l e.2
   exact ⟨z :: p,h1.cons z,by rw [List.map_cons,h2,e.1]⟩
 | swap x y l' =>
  intro l e
  match l,e with
  | z :: u :: l,e =>
   simp only [List.map_cons,List.cons.injEq] at e
   exact ⟨u :: z :: l,List.Perm.swap ..,by simp only [List.map_cons]; rw [e.1,e.2.1,e.2.2]⟩
 | trans _ _ ih1 ih2 =>
  intro l e
  obtain ⟨p,h1,h2⟩:=ih2 l e
  obtain ⟨q,h3,h4⟩:=ih1 p h2.symm
  exact ⟨q,h3.trans h1,h4⟩
abbrev Xs (c : List Eh) : List ByteArray:=nb (c.map (·.Who))
def cntO (c : List Eh) (need : Int) (M : List An) : Int:=((Xs c).map fun w=>Wu need none (Pp (tt M 0) c w)).sum
theorem BR (l : List An) (hg : ∀ x ∈ l,Kr x) (hl : l.length ≤ 8) : Np l 0 = some (tt l 0,0) ∧ Ok (tt l 0) 0 ≤ 345686400000:=by
 have hlen:=Zk l 0 hg
 have h2:=(Zv l 0 hg).2
 have h3:=nt_le l 0 hg
 refine ⟨?_,by omega⟩
 unfold Np
 have hm : Oh 0 = true:=by decide
 rw [hm,Wp l 0 hg (by omega) (by omega) (by omega)]
 simp only [Option.bind_some,Bool.not_true,Bool.false_eq_true,if_false]
 rw [JA _ _ (by omega)]
 simp only [Option.bind_some]
 rw [if_neg (by simp; omega)]
structure Tm (x : List An) (c : List Eh) : Prop where
 good : ∀ y ∈ x,Kr y
 len : x.length ≤ 8
 keys : x.Pairwise fun a b=>a.Key ≠ b.Key
 cl : c.length ≤ 1000
 cv : ∀ z ∈ c,∃ k y,CV x z k y
 adj : FH c
 few : ∀ w,(c.filter fun z=>decide (z.Who = w)).length ≤ 12
theorem Tm.perm {x o : List An} {c : List Eh} (h : Tm x c) (hp : o.Perm x) : Tm o c:=by
 have hk:=Xr h.keys hp
 refine ⟨fun y hy=>h.good y (hp.mem_iff.1 hy),by rw [hp.length_eq]; exact h.len,hk,h.cl,fun z hz=>?_,h.adj,h.few⟩
 obtain ⟨k,y,hcv⟩:=h.cv z hz
 have hy:=hp.mem_iff.2 (List.mem_of_getElem? hcv.get)
 obtain ⟨k',h1,h2⟩:=DK hy hk
 rw [FR _ hcv.ix hcv.get] at h1
 exact ⟨k',y,h1,h2,hcv.h1,hcv.h2⟩
theorem Tm.calls {x : List An} {c : List Eh} (h : Tm x c) (w : ByteArray) : Ln (Jf (tt x 0)) c w = some (Pp (tt x 0) c w) :=
 JN x h.good h.keys c (by have:=h.cl; omega) h.cv h.adj 0 w (h.few w)
theorem Tm.rests {x : List An} {c : List Eh} (h : Tm x c) : Nq (tt x 0) c = some (Ru (tt x 0) c (Xs c)):=by
 have hlen:=Zk x 0 h.good
 have:=h.len
 have:=h.cl
 exact JP _ c (by omega) (by omega) h.calls
theorem Tm.cnt {x : List An} {c : List Eh} (h : Tm x c) (need : Int) : (((Ru (tt x 0) c (Xs c)).filter fun z=>!decide (need ≤ z.Long)).length : Int) = cntO c need x :=
 EI need _ c (KN x 0 h.good (by omega) (by have:=h.len; omega)) _
theorem Tm.allLen {x : List An} {c : List Eh} (h : Tm x c) : (Ru (tt x 0) c (Xs c)).length < 1000000000:=by
 have hlen:=Zk x 0 h.good
 have:=h.len
 have:=h.cl
 have h1:=EG (tt x 0) c (by omega) (Xs c)
 have h2:=nb_len (c.map (·.Who))
 rw [List.length_map] at h2
 have : (Xs c).length ≤ c.length:=h2
 omega
theorem Tm.short {x : List An} {c : List Eh} (h : Tm x c) (hsw : Iz x c = some 0) {need : Int} (n0 : 0 ≤ need) (n1 : need ≤ 3600000) :
  Mm x c 0 need = some ((Ru (tt x 0) c (Xs c)).filter fun z=>!decide (need ≤ z.Long),0):=by
 unfold Mm En Qp
 rw [hsw,(BR x h.good h.len).1]
 simp only [Option.bind_some,decide_true,Bool.not_true,Bool.false_eq_true,if_false]
 rw [h.rests]
 simp only [Option.bind_some,decide_true,Bool.not_true,Bool.false_eq_true,if_false]
 rw [decide_eq_true n0,decide_eq_true n1,JQ _ h.allLen]
 rfl
theorem Tm.leaf {s : List An} {c : List Eh} (h : Tm s c) (need : Int) {now : List Int} (hp : now.Perm (Pm 0 s.length)) : (Sr s need (Ol s need none c (0,[])).1 (Ol s need none c (0,[])).2 now).1 = cntO c need (now.map (nth s)) :=
 leaf_is h.good h.keys h.len h.cl (Zq h.adj) (fun z hz=>by
  obtain ⟨k,y,hcv⟩:=h.cv z hz
  exact ⟨k,y,by rw [Yq]; unfold ixI; rw [hcv.ix],hcv.get,FR _ hcv.ix hcv.get,hcv.h1,hcv.h2⟩) hp
theorem Tm.best {s : List An} {c : List Eh} (h : Tm s c) (need : Int) : ∃ p,(Qy s c need).1 = p ∧ p.Perm (Pm 0 s.length) ∧ (p.map (nth s)).Perm s ∧ (Qy s c need).2.1 = cntO c need (p.map (nth s)) ∧ ∀ o,o.Perm s → (Qy s c need).2.1 ≤ cntO c need o:=by
 obtain ⟨p,h1,h2,h3⟩:=best_is s c need h.len
 have e : (p.map (nth s)).Perm s:=by
  have:=h2.map (nth s)
  rw [Wv] at this
  exact this
 refine ⟨p,by rw [h1]; rfl,h2,e,by rw [h1,← h.leaf need h2]; rfl,fun o ho=>?_⟩
 obtain ⟨q,q1,q2⟩:=KO (nth s) ho (Pm 0 s.length) (Wv s).symm
 rw [← q2,← h.leaf need q1,h1]
 have:=(h3 q q1).1
 unfold lt2 at this
 unfold Ul
 simp only
 omega
section
variable {L : List Int} (hL : Xy L)
include hL
omit hL in
theorem KP (n : Int) (j : List Int → Option (List Int × Int)) : ∀ (k m : Nat) (i : Nat) (x : List Int),n = (i : Int) + k → k < m → x = Pm 0 i → n ≤ 1000 → Jb n j m x (i : Int) = j (Pm 0 (i + k))
 | 0,m + 1,i,x,h1,h2,h3,h4=>by
  rw [Jb,if_neg (by simp; omega),h3]
  rfl
 | k + 1,m + 1,i,x,h1,h2,h3,h4=>by
  rw [Jb,if_pos (by simp; omega),Li (by unfold Pj; rw [h3,Qg]; simp; omega),Ks (by omega) (by omega)]
  have:=KP n j k m (i + 1) (x ++ [(i : Int)]) (by omega) (by omega) (by rw [h3]; unfold Pm; rw [List.range'_concat]; simp) h4
  rw [show ((i + 1 : Nat) : Int) = (i : Int) + 1 by omega] at this
  rw [this]
  congr 2
  omega
theorem KQ {n : Nat} (hn : n ≤ 100) : ∀ (m : Nat) (x3 : List Int) (a x5 : Int),0 ≤ a → a + x5 ≤ 100000000 → -1 ≤ x5 → x5 < (n : Int) → x5 < (m : Int) - 1 → x3.Perm (Pm 0 n) →
  ∃ z b,Jc L (fun x a=>some (x,a)) m x3 a x5 = some (z,b) ∧ a ≤ b ∧ b ≤ a + 100 ∧ b ≤ a + (x5 + 1) ∧ z.Perm (Pm 0 n)
 | 0,x3,a,x5,_,_,_,_,h,_=>by omega
 | m + 1,x3,a,x5,h0,h1,h2,h3,h4,h5=>by
  rw [Jc]
  have hl : x3.length = n:=by rw [h5.length_eq,Qg]
  by_cases h : 0 < x5
  ·rw [if_pos (decide_eq_true h),Ks (n:=x5 + 1) (by omega) (by omega),Ks (n:=x5 - 1) (by omega) (by omega)]
   obtain ⟨i,b,e,g1,g2,g3,g4⟩:=next_dr hL (a:=a) h0 (by omega) (x5 + 1) (by omega)
   rw [e]; simp only [Option.bind_some]
   have hi : inB i x3.length = true:=Iv.2 ⟨g3,by omega⟩
   have h5' : inB x5 x3.length = true:=Iv.2 ⟨by omega,by omega⟩
   rw [Ot hi,Ot h5',Ot h5',Ot (by rw [List.length_set]; exact hi)]
   have e1 : nth x3 i = x3[i.toNat]'(by omega):=by
    have:=(Ef hi).1
    rw [List.getElem?_eq_getElem (by omega)] at this
    exact (Option.some.inj this).symm
   have e2 : nth x3 x5 = x3[x5.toNat]'(by omega):=by
    have:=(Ef h5').1
    rw [List.getElem?_eq_getElem (by omega)] at this
    exact (Option.some.inj this).symm
   obtain ⟨z,c,w1,w2,w3,w4,w5⟩:=KQ hn m ((x3.set x5.toNat (nth x3 i)).set i.toNat (nth x3 x5)) b (x5 - 1) (by omega) (by omega) (by omega) (by omega) (by omega) (by
    rw [e1,e2]
    exact (List.set_set_perm (by omega) (by omega)).trans h5)
   exact ⟨z,c,w1,by omega,by omega,by omega,w5⟩
  ·rw [if_neg (by simpa using h)]
   exact ⟨x3,a,rfl,by omega,by omega,by omega,h5⟩
theorem ordP_dr {a : Int} (h0 : 0 ≤ a) (h1 : a ≤ 900000) {n : Nat} (hn : n ≤ 50) : Dr a 50 (fun z=>z.Perm (Pm 0 n)) (Pv L a (n : Int)):=by
 unfold Pv
 simp only [Lz]
 have:=KP (n : Int) (fun x1=>Jc L (fun x3 x4=>some (x3,x4)) (((W ((n : Int) - 1)) - 0).toNat + 2) x1 a (W ((n : Int) - 1))) n (((n : Int) - 0).toNat + 2) 0 [] (by omega) (by omega) rfl (by omega)
 rw [Int.natCast_zero] at this
 rw [this,Nat.zero_add,Ks (by omega) (by omega)]
 obtain ⟨z,b,w1,w2,w3,w4,w5⟩:=KQ hL (n:=n) (by omega) ((((n : Int) - 1) - 0).toNat + 2) (Pm 0 n) a ((n : Int) - 1) h0 (by omega) (by omega) (by omega) (by omega) (List.Perm.refl _)
 exact ⟨z,b,w1,w2,by omega,w5⟩
end
end Go.Proofs.YtombbefepcipcaaGreatDoor
namespace Go.Proofs.YtombbefepcipcaaGreatDoor
open Go
theorem Yh {L : List Int} (hL : Xy L) {a : Int} (h0 : 0 ≤ a) (h1 : a ≤ 100000000) : Dr a 25 (fun x=>x.length ≤ 5 ∧ (∀ z ∈ x,KH z) ∧ x.Pairwise (fun a b=>a.Key ≠ b.Key)) (Me L a 4):=by
 unfold Me
 rw [Ot (by decide +kernel),Uq]
 have hc : cut ([Tv,Tw,Tx,Ty,Vn] : List ByteArray) 0 4 = [Tv,Tw,Tx,Ty]:=rfl
 rw [hc]
 obtain ⟨x,c,e',g7,g8,g9,g10,g11⟩:=Sf hL [Tv,Tw,Tx,Ty] 0 [] a h0 (by simp; omega) (by simp) (fun s h=>by simp only [EV,List.mem_cons,List.not_mem_nil,or_false] at *; rcases h with h | h | h | h <;> simp [h]) (by decide +kernel) (fun _ h=>by cases h) List.Pairwise.nil
 exact ⟨x,c,e',g7,by simp at g8; omega,by simp at g9; omega,g10,g11⟩
end Go.Proofs.YtombbefepcipcaaGreatDoor
namespace Go.Proofs.YtombbefepcipcaaGreatDoor
open Go
theorem HI (x : List An) (p : List Int) : (p.map fun k=>(nth x k).Key) = (p.map (nth x)).map (·.Key):=by rw [List.map_map]; rfl
theorem HJ (r : List An × Int) (j : List ByteArray → Option Bool) : ∀ (ys : List Int) (i : Nat) (x : List ByteArray),InR r.1.length ys → x.length + ys.length ≤ 1000 → Gj r j ys i x = j (x ++ ys.map fun k=>(nth r.1 k).Key)
 | [],_,x,_,_=>by rw [Gj]; simp
 | y :: ys,i,x,hk,h=>by
  obtain ⟨h0,h1⟩:=hk y (by simp)
  simp only [List.length_cons] at h
  rw [Gj,Li (Iv.2 ⟨h0,h1⟩),Li (by unfold Pj; simp; omega),HJ r j ys (i + 1) _ (fun z hz=>hk z (by simp [hz])) (by simp; omega)]
  simp
theorem plain_OrdersAreBest (l : List Int) (hl : l.length ≤ 9223372036854775807) : Le l = some true:=by
 have hL : Xy l:=by unfold Xy; omega
 obtain ⟨x,a1,e1,p1,q1,hx5,hit,hd⟩:=Yh hL (a:=0) (by omega) (by omega)
 have hg : ∀ z ∈ x,Kr z:=fun z hz=>(hit z hz).1
 obtain ⟨c,a2,e2,p2,q2,hc15,hcw,hcp,hcn⟩:=KJ hL (a:=a1) (by omega) (by omega) x hx5 (fun y hy=>by have:=hg y hy; unfold Kr at this; omega) hd
 obtain ⟨need,a3,e3,p3,q3,n0,n1⟩:=EU hL (a:=a2) (by omega) (by omega) 0 200 (by omega) (by omega) (by omega)
 obtain ⟨ord,a4,e4,p4,q4,hord⟩:=ordP_dr hL (a:=a3) (by omega) (by omega) (n:=x.length) (by omega)
 have hci : ∀ o : List An,o.Perm x → Iy o = some 0:=fun o ho=>by
  have:=ho.length_eq
  unfold Iy
  rw [if_neg (by simp; omega),Lz]
  exact BQ o 0 [] (fun z hz=>⟨hit z (ho.mem_iff.1 hz),rfl⟩) (Xr hd ho)
 have hcv : ∀ z ∈ c,∃ k y,CV x z k y:=fun z hz=>by
  obtain ⟨_,y,hy,h1,h2,h3⟩:=hcw z hz
  obtain ⟨k,g1,g2⟩:=DK hy hd
  exact ⟨k,y,by rw [h1]; exact g1,g2,h2,h3⟩
 have hok : Tm x c:=⟨hg,by omega,hd,by omega,hcv,cadj_of hcp,hcn⟩
 have hsw : ∀ o : List An,o.Perm x → Iz o c = some 0:=fun o ho=>by
  have hoo:=hok.perm ho
  exact pass o (hci o ho) (by have:=hoo.len; omega) c (by omega) (fun z hz=>KK (hcw z hz).1) hoo.cv hoo.adj
 have hS:=FG ltK x
 obtain ⟨p,b1,b2,b3,b4,b5⟩:=(hok.perm hS).best need
 have hO:=JX (need:=need) (hsw x (List.Perm.refl _)) hg hcv (by omega) (by omega) (by omega) (by omega)
 rw [if_neg (by have:=(BR x hg (by omega)).2; omega),b1,HI (Jv ltK x)] at hO
 have hM : (p.map (nth (Jv ltK x))).Perm x:=b3.trans hS
 generalize p.map (nth (Jv ltK x)) = M at hO hM b3 b4
 have hM1:=EX hd (hci x (List.Perm.refl _)) (by omega) hM
 have hM2:=(hok.perm hM).short (hsw M hM) n0 (by omega)
 have hc1:=(hok.perm hM).cnt need
 have hk : (ord.map (nth x)).Perm x:=by
  have:=hord.map (nth x)
  rw [Wv] at this
  exact this
 have ho:=HJ (x,a1) (fun x1=>Option.bind (Ml x x1) (fun r8=>Option.bind (Mm r8.1 c 0 need) (fun r9=>if (((decide ((Fm [((Ru (tt M 0) c (Xs c)).filter fun z=>!decide (need ≤ z.Long),(0 : Int)).2,r8.2,r9.2]) = 0)) && (decide ((((Ru (tt M 0) c (Xs c)).filter fun z=>!decide (need ≤ z.Long)).length : Int) = (Qy (Jv ltK x) c need).2.1))) && (decide ((Qy (Jv ltK x) c need).2.1 ≤ (r9.1.length : Int)))) then Option.bind (Nh) (fun r10 =>
  some ((((decide ((Fm [((Ru (tt M 0) c (Xs c)).filter fun z=>!decide (need ≤ z.Long),(0 : Int)).2,r8.2,r9.2]) = 0)) && (decide ((((Ru (tt M 0) c (Xs c)).filter fun z=>!decide (need ≤ z.Long)).length : Int) = (Qy (Jv ltK x) c need).2.1))) && (decide ((Qy (Jv ltK x) c need).2.1 ≤ (r9.1.length : Int)))) && r10)) else some ((((decide ((Fm [((Ru (tt M 0) c (Xs c)).filter fun z=>!decide (need ≤ z.Long),(0 : Int)).2,r8.2,r9.2]) = 0)) && (decide ((((Ru (tt M 0) c (Xs c)).filter fun z=>!decide (need ≤ z.Long)).length : Int) = (Qy (Jv ltK x) c need).2.1))) && (decide ((Qy (Jv ltK x) c need).2.1 ≤ (r9.1.length : Int)))) && true)))) ord 0 [] (fun k hk'=>Yv _ k (hord.mem_iff.1 hk')) (by have:=hord.length_eq; rw [Qg] at this; simp; omega)
 rw [List.nil_append,HI x] at ho
 generalize ord.map (nth x) = K at hk ho
 have hK1:=EX hd (hci x (List.Perm.refl _)) (by omega) hk
 have hK2:=(hok.perm hk).short (hsw K hk) n0 (by omega)
 have hc2:=(hok.perm hk).cnt need
 have hb:=b5 K (hk.trans hS.symm)
 unfold Le
 rw [e1]; simp only [Option.bind_some]
 rw [e2]; simp only [Option.bind_some]
 rw [e3]; simp only [Option.bind_some]
 rw [hO]; simp only [Option.bind_some]
 rw [hM1]; simp only [Option.bind_some]
 have k2 : Fm [0,0] = 0:=by rw [Vy,Vy]; rfl
 have k3 : Fm [0,0,0] = 0:=by rw [Vy,k2]; rfl
 have hMl : (M.length : Int) = (x.length : Int):=by rw [hM.length_eq]
 rw [k2,if_neg (by simp [hMl]),hM2]; simp only [Option.bind_some]
 rw [e4]; simp only [Option.bind_some,Lz]
 refine Eq.trans ho ?_
 rw [hK1]; simp only [Option.bind_some]
 rw [hK2]; simp only [Option.bind_some]
 rw [k3,hc1,hc2,b4,decide_eq_true rfl,decide_eq_true rfl,decide_eq_true (by rw [← b4]; exact hb)]
 simp only [Bool.and_self,if_true,KG,Option.bind_some]
end Go.Proofs.YtombbefepcipcaaGreatDoor
