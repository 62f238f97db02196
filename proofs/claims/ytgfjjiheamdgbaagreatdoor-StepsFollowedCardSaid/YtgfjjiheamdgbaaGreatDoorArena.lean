/- Blocks that a call makes in a loop and keeps by their places in a list: an Iu. No statement of the seat is proved here. -/
import Derived.Test.YtgfjjiheamdgbaaGreatDoorDeep
namespace Go.Proofs.YtgfjjiheamdgbaaGreatDoor
open Go
section
variable {α : Type}
def Iu (T : TypeId) (enc : α → List Value) : List Nat → List α → List LEnt
 | b :: bs,x :: xs=>.blk b (enc x) T :: Iu T enc bs xs
 | _,_=>[]
theorem Zu {T : TypeId} {enc : α → List Value} : ∀ {bs : List Nat} {xs : List α} {j b : Nat} {x : α},bs[j]? = some b → xs[j]? = some x → (Iu T enc bs xs)[j]? = some (.blk b (enc x) T)
 | [],_,_,_,_,h,_=>by simp at h
 | _ :: _,[],_,_,_,_,h=>by simp at h
 | b :: bs,x :: xs,0,_,_,h,k=>by
  simp only [List.getElem?_cons_zero,Option.some.injEq] at h k
  subst h k
  rfl
 | b :: bs,x :: xs,j + 1,_,_,h,k=>by
  simp only [List.getElem?_cons_succ] at h k
  simp only [Iu,List.getElem?_cons_succ]
  exact Zu h k
theorem Xw {T : TypeId} {enc : α → List Value} : ∀ {bs : List Nat} {xs : List α} {j b : Nat} {y : α},bs[j]? = some b → (Iu T enc bs xs).set j (.blk b (enc y) T) = Iu T enc bs (xs.set j y)
 | [],_,_,_,_,h=>by simp at h
 | _ :: _,[],_,_,_,_=>by simp [Iu]
 | b :: bs,x :: xs,0,_,_,h=>by
  simp only [List.getElem?_cons_zero,Option.some.injEq] at h
  subst h
  rfl
 | b :: bs,x :: xs,j + 1,_,_,h=>by
  simp only [List.getElem?_cons_succ] at h
  simp only [Iu,List.set_cons_succ]
  rw [Xw h]
theorem Xx {T : TypeId} {enc : α → List Value} (b : Nat) (x : α) : ∀ {bs : List Nat} {xs : List α},bs.length = xs.length → Iu T enc (bs ++ [b]) (xs ++ [x]) = Iu T enc bs xs ++ [.blk b (enc x) T]
 | [],[],_=>rfl
 | [],_ :: _,h=>by simp at h
 | _ :: _,[],h=>by simp at h
 | _ :: bs,_ :: xs,h=>by
  simp only [List.length_cons,Nat.add_right_cancel_iff] at h
  simp only [List.cons_append,Iu]
  rw [Xx b x h]
end
section
variable {w0 : World} {X : List Nat} {φ : View} {L : List LEnt} {K : List (Nat × Value)} {n : Nat} {a : Act} {w : World}
theorem Sx.perm {L' : List LEnt} (S : Sx w0 X φ L K n a w) (h : L.Perm L') : Sx w0 X φ L' K n a w :=
 { S with
  holds:=fun e he=>S.holds e (h.mem_iff.2 he)
  nodup:=(h.filterMap _).nodup_iff.1 S.nodup
  sep:=fun b hb=>S.sep b ((h.filterMap _).mem_iff.2 hb) }
theorem Sx.join_arena {α : Type} {T : TypeId} {enc : α → List Value} {F : List LEnt} {b : Nat} {x : α} {bs : List Nat} {xs : List α} (hl : bs.length = xs.length) (S : Sx w0 X φ (.blk b (enc x) T :: (F ++ Iu T enc bs xs)) K n a w) :
  Sx w0 X φ (F ++ Iu T enc (bs ++ [b]) (xs ++ [x])) K n a w:=by
 rw [Xx b x hl,← List.append_assoc]
 exact S.perm (List.perm_append_comm (l₁:=[_]) (l₂:=F ++ Iu T enc bs xs))
theorem Sx.seeArena {α : Type} {T : TypeId} {enc : α → List Value} (hX : X = []) : ∀ {bs : List Nat} {xs : List α} {F : List LEnt} {φ : View},bs.length = xs.length → Sx w0 X φ (F ++ Iu T enc bs xs) K n a w →
  ∃ φ',View.le φ φ' ∧ Fn (fun x b=>φ' b = some (.cells (enc x).toArray T (0,0))) xs bs ∧ Sx w0 X φ' F K n a w
 | [],[],F,φ,_,S=>⟨φ,View.le_refl _,.nil,by simpa [Iu] using S⟩
 | [],_ :: _,_,_,h,_=>by simp at h
 | _ :: _,[],_,_,h,_=>by simp at h
 | b :: bs,x :: xs,F,φ,h,S=>by
  simp only [List.length_cons,Nat.add_right_cancel_iff] at h
  -- the first block goes into the view
  have S1 : Sx w0 X φ (.blk b (enc x) T :: (F ++ Iu T enc bs xs)) K n a w:=S.perm (by simp [Iu])
  have hb:=S1.blk_at (i:=0) rfl
  obtain ⟨s1,s2,s3⟩:=S1.sep b (by simp [fps,LEnt.fp])
  have hnd:=S1.nodup
  have hfe : fps (.blk b (enc x) T :: (F ++ Iu T enc bs xs)) = b :: fps (F ++ Iu T enc bs xs):=by simp [fps,LEnt.fp]
  rw [hfe,List.nodup_cons] at hnd
  have S2:=(S1.drop (L':=F ++ Iu T enc bs xs) (List.sublist_cons_self _ _)).grow (ψ:=fun c=>if c = b then w.heap[c]? else none)
   (fun c o e=>by
    by_cases hc : c = b
    ·simpa [hc] using e
    ·simp [hc] at e)
   (fun c o e=>by
    by_cases hc : c = b
    ·clear e
     subst hc
     rcases s2 with h1 | h1
     ·exact h1
     ·rw [hX] at h1; cases h1
    ·simp [hc] at e)
   (fun c hc=>by
    have hcb : c ≠ b:=by
     rintro rfl
     exact hnd.1 hc
    simp [hcb])
  obtain ⟨φ',l,h2,S3⟩:=Sx.seeArena hX h S2
  refine ⟨φ',View.le_trans (le_join_left _ _) l,.cons (l _ _ ?_) h2,S3⟩
  simp [join,s1,hb]
end
theorem Sh {α : Type} {T : TypeId} {enc : α → List Value} {F : List LEnt} {bs : List Nat} {xs : List α} {j b : Nat} {x : α} (h : bs[j]? = some b) (k : xs[j]? = some x) : (F ++ Iu T enc bs xs)[F.length + j]? = some (.blk b (enc x) T):=by
 rw [List.getElem?_append_right (Nat.le_add_right _ _),Nat.add_sub_cancel_left]
 exact Zu h k
theorem Sx.arena_store {w0 : World} {X : List Nat} {φ : View} {K : List (Nat × Value)} {n : Nat} {a : Act} {w : World} {α : Type} {T : TypeId} {enc : α → List Value} {F : List LEnt} {bs : List Nat} {xs : List α} {j b : Nat} {cs : List Value} {y : α}
  (S : Sx w0 X φ ((F ++ Iu T enc bs xs).set (F.length + j) (.blk b cs T)) K n a w) (h : bs[j]? = some b) (hc : cs = enc y) : Sx w0 X φ (F ++ Iu T enc bs (xs.set j y)) K n a w:=by
 subst hc
 rw [List.set_append_right _ _ (Nat.le_add_right _ _),Nat.add_sub_cancel_left,Xw h] at S
 exact S
section
variable {P : Program} {w0 : World} {X : List Nat} {φ : View} {L : List LEnt} {K : List (Nat × Value)} {n : Nat} {a : Act} {w : World} {ty : TypeId}
def PV (o : Option Nat) : Value:=.pointer (o.map fun b=>⟨b,0,none⟩)
theorem BQ {t T : TypeId} (ht : P.underlying t = some (.pointer T)) (o : Option Nat) (w : World) : (Op.equal t (PV o) (.pointer none)).run P w = .ok o.isNone w:=by
 unfold Op.equal PV
 rw [show Op.maxDepth = 9999 + 1 from rfl,Op.equalIn]
 simp only [Sem.run_bind,run_underlying ht,Result.andThen_ok]
 cases o <;> rfl
theorem rn_peql {t u T : TypeId} {x y : Operand} {o : Option Nat} (ht : P.underlying t = some (.pointer T)) (hx : a.eval x = PV o) (hy : a.eval y = .pointer none) : Rn P a w (.binOp .eql t x y u) ty (.bool o.isNone):=by
 intro d p e g
 simp [execOp,hx,hy,binOp,eqGuard,BQ ht]
theorem BR {t u T : TypeId} {x y : Operand} {o : Option Nat} (ht : P.underlying t = some (.pointer T)) (hx : a.eval x = PV o) (hy : a.eval y = .pointer none) : Rn P a w (.binOp .neq t x y u) ty (.bool o.isSome):=by
 intro d p e g
 have h : (!o.isNone) = o.isSome:=by cases o <;> rfl
 simp [execOp,hx,hy,binOp,eqGuard,BQ ht,h]
end
section
variable {κ : Type} [DecidableEq κ]
def idm (ks : List κ) (bs : List Nat) : List (κ × Option Nat):=ks.zip (bs.map some)
theorem Wq (k : κ) : ∀ (ks : List κ) (bs : List Nat) (i : Nat),bs.length = ks.length → (Nr (idm ks bs) k i).map (·.2) = (ks.findIdx? (fun x=>decide (k = x))).bind fun j=>(bs[j]?).map some
 | [],[],i,_=>by simp [idm,Nr]
 | [],_ :: _,_,h=>by simp at h
 | _ :: _,[],_,h=>by simp at h
 | x :: ks,b :: bs,i,h=>by
  simp only [List.length_cons,Nat.add_right_cancel_iff] at h
  unfold idm
  simp only [List.map_cons,List.zip_cons_cons,Nr,List.findIdx?_cons]
  by_cases hk : k = x
  ·simp [hk]
  ·rw [if_neg hk]
   have:=Wq k ks bs (i + 1) h
   unfold idm at this
   rw [this]
   simp only [hk,decide_false,Bool.false_eq_true,if_false]
   cases ks.findIdx? (fun x=>decide (k = x)) with
   | none=>rfl
   | some j=>simp
theorem BS (k : κ) {ks : List κ} {bs : List Nat} (h : bs.length = ks.length) : Tu (idm ks bs) k none = (ks.findIdx? (fun x=>decide (k = x))).bind fun j=>bs[j]?:=by
 unfold Tu Yn
 rw [Wq k ks bs 0 h]
 cases ks.findIdx? (fun x=>decide (k = x)) with
 | none=>rfl
 | some j=>cases hb : bs[j]? <;> simp [hb]
theorem idm_put {k : κ} {ks : List κ} {bs : List Nat} (h : bs.length = ks.length) (hn : ks.findIdx? (fun x=>decide (k = x)) = none) (b : Nat) : Pq (idm ks bs) k (some b) = idm (ks ++ [k]) (bs ++ [b]):=by
 have h1 : Nr (idm ks bs) k 0 = none:=by
  have:=Wq k ks bs 0 h
  rw [hn] at this
  cases hm : Nr (idm ks bs) k 0 with
  | none=>rfl
  | some p=>rw [hm] at this; simp at this
 rw [Us h1]
 unfold idm
 rw [List.map_append,List.zip_append (by simpa using h.symm)]
 rfl
section
variable {α : Type} {key : α → κ} {bs : List Nat} {xs : List α} {k : κ} {o : Option Nat}
omit [DecidableEq κ] in
theorem Wr (h : bs.length = xs.length) : bs.length = (xs.map key).length:=by rw [List.length_map]; exact h
theorem Ws : (xs.map key).findIdx? (fun x=>decide (k = x)) = xs.findIdx? (fun x=>decide (k = key x)):=by rw [List.findIdx?_map]; rfl
theorem DZ (h : bs.length = xs.length) (ho : Tu (idm (xs.map key) bs) k none = o) : (xs.findIdx? (fun x=>decide (k = key x))).isNone = o.isNone ∧ (xs.findIdx? (fun x=>decide (k = key x))).isSome = o.isSome:=by
 rw [BS k (Wr h),Ws] at ho
 subst ho
 cases hf : xs.findIdx? (fun x=>decide (k = key x)) with
 | none=>exact ⟨rfl,rfl⟩
 | some j =>
  have hj : j < bs.length:=by rw [h]; exact (List.findIdx?_eq_some_iff_getElem.1 hf).1
  simp [List.getElem?_eq_getElem hj]
theorem Tz [Inhabited α] (h : bs.length = xs.length) (ho : Tu (idm (xs.map key) bs) k none = o) (hs : o.isSome = true) :
  ∃ b,o = some b ∧ bs[(xs.findIdx? (fun x=>decide (k = key x))).getD 0]? = some b ∧ xs[(xs.findIdx? (fun x=>decide (k = key x))).getD 0]? = some (xs.getD ((xs.findIdx? (fun x=>decide (k = key x))).getD 0) default):=by
 rw [BS k (Wr h),Ws] at ho
 cases hf : xs.findIdx? (fun x=>decide (k = key x)) with
 | none=>rw [hf] at ho; subst ho; cases hs
 | some j =>
  rw [hf] at ho
  have hj : j < xs.length:=(List.findIdx?_eq_some_iff_getElem.1 hf).1
  have hj' : j < bs.length:=by rw [h]; exact hj
  refine ⟨bs[j],?_,?_,?_⟩
  ·rw [← ho]; simp [List.getElem?_eq_getElem hj']
  ·simp [List.getElem?_eq_getElem hj']
  ·simp [List.getD,List.getElem?_eq_getElem hj]
theorem idm_add (x : α) (h : bs.length = xs.length) (hn : (xs.map key).findIdx? (fun x=>decide (k = x)) = none) (hx : key x = k) (b : Nat) : Pq (idm (xs.map key) bs) k (some b) = idm ((xs ++ [x]).map key) (bs ++ [b]):=by
 rw [idm_put (Wr h) hn,List.map_append,List.map_cons,List.map_nil,hx]
omit [DecidableEq κ] in
theorem Zv {j : Nat} {x y : α} (h : xs[j]? = some x) (hk : key y = key x) : xs.map key = (xs.set j y).map key:=by
 rw [List.map_set,hk]
 exact (BN (by rw [List.getElem?_map,h]; rfl)).symm
theorem CS (h : bs.length = xs.length) (ho : Tu (idm (xs.map key) bs) k none = o) (hs : o.isNone = true) : (xs.map key).findIdx? (fun x=>decide (k = x)) = none:=by
 rw [Ws]
 have:=(DZ h ho).1
 rw [hs] at this
 simpa using this
end
end
section rows
variable {α : Type} {enc : α → List Value} {T k : Nat}
section
variable {κ : Type} [DecidableEq κ]
end
variable {w0 : World} {X : List Nat} {K : List (Nat × Value)} {n : Nat} {a : Act} {w : World}
end rows
section rzT
variable {κ α : Type}
def rzT : Nat → List (κ × List α) → List Value → List (κ × (Nat × List α × Value))
 | n,e :: xs,v :: vs=>(e.1,(n,e.2,v)) :: rzT (n + 1) xs vs
 | _,_,_=>[]
def Wt (q : List (κ × (Nat × List α × Value))) (vs : List Value) (xss : List (List α)) : Prop:=(q.map (·.2.1)).Nodup ∧ ∀ e ∈ q,vs[e.2.1]? = some e.2.2.2 ∧ xss[e.2.1]? = some e.2.2.1
theorem Wt.step {q q' : List (κ × (Nat × List α × Value))} {y : κ × (Nat × List α × Value)} {vs : List Value} {xss : List (List α)} (h : Wt q vs xss) (hp : q.Perm (y :: q')) (u : Value) (zs : List α) :
  vs[y.2.1]? = some y.2.2.2 ∧ xss[y.2.1]? = some y.2.2.1 ∧ Wt q' (vs.set y.2.1 u) (xss.set y.2.1 zs):=by
 obtain ⟨h1,h2⟩:=h
 have h3:=(hp.map (fun e : κ × (Nat × List α × Value)=>e.2.1)).nodup_iff.1 h1
 rw [List.map_cons,List.nodup_cons] at h3
 have hy:=h2 y (hp.mem_iff.2 (List.mem_cons_self ..))
 refine ⟨hy.1,hy.2,h3.2,fun e he=>?_⟩
 have h4 : y.2.1 ≠ e.2.1:=fun h5=>h3.1 (by rw [h5]; exact List.mem_map_of_mem he)
 have h6:=h2 e (hp.mem_iff.2 (List.mem_cons_of_mem _ he))
 rw [List.getElem?_set_ne h4,List.getElem?_set_ne h4]
 exact h6
end rzT
section
variable {P : Program} {w0 : World} {X : List Nat} {φ : View} {L : List LEnt} {K : List (Nat × Value)} {n : Nat} {a : Act} {w : World}
end
end Go.Proofs.YtgfjjiheamdgbaaGreatDoor
