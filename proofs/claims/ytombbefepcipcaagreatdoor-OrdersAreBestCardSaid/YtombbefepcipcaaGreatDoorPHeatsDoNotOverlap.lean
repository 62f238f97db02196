/- The plain law of HeatsDoNotOverlap. No program stands here but its twins. -/
import Derived.Test.YtombbefepcipcaaGreatDoorPCallsT
namespace Go.Proofs.YtombbefepcipcaaGreatDoor
open Go
def pr (who : ByteArray) : Dx → List Dx → List Eu
 | _,[]=>[]
 | p,s :: r=>Eu.mk who p s (W (s.Time.From - p.Time.To)) :: pr who s r
def prs (who : ByteArray) : List Dx → List Eu
 | []=>[]
 | p :: r=>pr who p r
theorem JO (who : ByteArray) : ∀ (r : List Dx) (p : Dx),(pr who p r).length = r.length
 | [],_=>rfl
 | s :: r,p=>by simp [pr,JO who r s]
theorem DC (who : ByteArray) (l : List Dx) : (prs who l).length ≤ l.length:=by
 cases l with
 | nil=>simp [prs]
 | cons p r=>simp [prs,JO]
theorem pr_l {R : Type} (who : ByteArray) (r : List Dx) (hr : r.length ≤ 1000000) (j : List Eu → Option R) (F : Nat → List Eu → Int → Option R)
  (h : ∀ m x3 x4,F (m + 1) x3 x4 = if decide (x4 < (r.length : Int)) then Chk (inB (W (x4 - 1)) r.length) (Chk (inB x4 r.length) (Chk (inB x4 r.length) (Chk (inB (W (x4 - 1)) r.length) (Chk (Pj x3.length) (
   F m (x3 ++ [Eu.mk who (nth r (W (x4 - 1))) (nth r x4) (W ((nth r x4).Time.From - (nth r (W (x4 - 1))).Time.To))]) (W (x4 + 1))))))) else j x3) :
  ∀ (ys dn : List Dx) (p : Dx) (m : Nat) (x : List Eu),r = dn ++ p :: ys → ys.length < m → x.length + ys.length ≤ 100000000 → F m x ((dn.length + 1 : Nat) : Int) = j (x ++ pr who p ys)
 | [],dn,p,m,x,e,h1,_=>by
  obtain ⟨m,rfl⟩ : ∃ q,m = q + 1:=⟨m - 1,by omega⟩
  have hlen : r.length = dn.length + 1:=by rw [e]; simp
  rw [h,if_neg (by simp only [decide_eq_true_eq]; omega)]
  simp [pr]
 | y :: ys,dn,p,m,x,e,h1,h2=>by
  obtain ⟨m,rfl⟩ : ∃ q,m = q + 1:=⟨m - 1,by omega⟩
  simp only [List.length_cons] at h1 h2
  have hlen : r.length = dn.length + (ys.length + 1 + 1):=by rw [e]; simp
  have w1 : W (((dn.length + 1 : Nat) : Int) - 1) = (dn.length : Int):=by rw [Ks (by omega) (by omega)]; omega
  have w2 : W (((dn.length + 1 : Nat) : Int) + 1) = (((dn ++ [p]).length + 1 : Nat) : Int):=by rw [Ks (by omega) (by omega)]; simp
  have n1 : nth r (dn.length : Int) = p:=Pi (by rw [e]; simp)
  have n2 : nth r ((dn.length + 1 : Nat) : Int) = y:=Pi (by rw [e,List.getElem?_append_right (by omega)]; simp)
  rw [h,if_pos (by simp only [decide_eq_true_eq]; omega),w1,Li (Iv.2 (by omega)),Li (Iv.2 (by omega)),Li (Iv.2 (by omega)),Li (Iv.2 (by omega)),Li (by unfold Pj; simp; omega),n1,n2,w2]
  rw [pr_l who r hr j F h ys (dn ++ [p]) y m _ (by rw [e]; simp) (by omega) (by simp; omega)]
  simp [pr]
def Ru (T : List Dx) (l : List Eh) (ws : List ByteArray) : List Eu:=ws.flatMap fun w=>prs w (Pp T l w)
theorem Zr (T : List Dx) (l : List Eh) (w : ByteArray) : (Pp T l w).length ≤ T.length:=List.length_filter_le _ _
theorem prs_l {R : Type} (who : ByteArray) (r : List Dx) (hr : r.length ≤ 10000) (j : List Eu → Option R) (F : Nat → List Eu → Int → Option R)
  (h : ∀ m x3 x4,F (m + 1) x3 x4 = if decide (x4 < (r.length : Int)) then Chk (inB (W (x4 - 1)) r.length) (Chk (inB x4 r.length) (Chk (inB x4 r.length) (Chk (inB (W (x4 - 1)) r.length) (Chk (Pj x3.length) (
   F m (x3 ++ [Eu.mk who (nth r (W (x4 - 1))) (nth r x4) (W ((nth r x4).Time.From - (nth r (W (x4 - 1))).Time.To))]) (W (x4 + 1))))))) else j x3) (x : List Eu) (hx : x.length ≤ 90000000) :
  F (((r.length : Int) - 1).toNat + 2) x 1 = j (x ++ prs who r):=by
 cases r with
 | nil =>
  rw [h,if_neg (by simp)]
  simp [prs]
 | cons p ys =>
  have:=pr_l who (p :: ys) (by omega) j F h ys [] p ((((p :: ys).length : Int) - 1).toNat + 2) x rfl (by simp) (by simp only [List.length_cons] at hr; omega)
  simpa [prs] using this
theorem DD (T : List Dx) (l : List Eh) (hl : l.length ≤ 2000) (hT : T.length ≤ 10000) (hc : ∀ w,Ln (Jf T) l w = some (Pp T l w)) : ∀ (ys dn : List Eh) (c : Eh) (x : List Eu),l = dn ++ c :: ys → x.length ≤ 10000 * (dn.length + 1) →
  Hk T l (fun x=>some x) ys (dn.length + 1) x = some (x ++ Ru T l (nbF c.Who (ys.map (·.Who))))
 | [],dn,c,x,_,_=>by simp [Hk,Ru,nbF]
 | y :: ys,dn,c,x,e,hx=>by
  have hlen : l.length = dn.length + (ys.length + 1 + 1):=by rw [e]; simp
  have w1 : W (((dn.length + 1 : Nat) : Int) - 1) = (dn.length : Int):=by rw [Ks (by omega) (by omega)]; omega
  have n1 : nth l (dn.length : Int) = c:=Pi (by rw [e]; simp)
  have hd : (dn ++ [c]).length = dn.length + 1:=by simp
  rw [Hk]
  simp only [Lz]
  rw [if_pos (decide_eq_true (by omega)),w1,Li (Iv.2 (by omega)),n1,decide_eq_true (show 0 < ((dn.length + 1 : Nat) : Int) by omega)]
  simp only [Bool.true_and,List.map_cons,nbF]
  have hm:=Zr T l y.Who
  have hp:=DC y.Who (Pp T l y.Who)
  by_cases hy : c.Who = y.Who
  ·have ih:=DD T l hl hT hc ys (dn ++ [c]) y x (by rw [e]; simp) (by rw [hd]; omega)
   rw [hd] at ih
   rw [if_pos (decide_eq_true hy),if_pos hy.symm,ih]
  ·have ih:=DD T l hl hT hc ys (dn ++ [c]) y (x ++ prs y.Who (Pp T l y.Who)) (by rw [e]; simp) (by rw [hd,List.length_append]; omega)
   rw [hd] at ih
   rw [if_neg (by simpa using hy),if_neg (fun h=>hy h.symm),hc]
   simp only [Option.bind_some]
   rw [prs_l y.Who (Pp T l y.Who) (by omega) _ (Jg (Pp T l y.Who) y fun (x3 : List Eu)=>Hk T l (fun x=>some x) ys (dn.length + 1 + 1) x3) (fun _ _ _=>rfl) x (by omega),ih]
   simp [Ru]
theorem JP (T : List Dx) (l : List Eh) (hl : l.length ≤ 2000) (hT : T.length ≤ 10000) (hc : ∀ w,Ln (Jf T) l w = some (Pp T l w)) : Nq T l = some (Ru T l (nb (l.map (·.Who)))):=by
 unfold Nq
 rw [Lz]
 cases l with
 | nil=>rfl
 | cons y ys =>
  have hm:=Zr T (y :: ys) y.Who
  have hp:=DC y.Who (Pp T (y :: ys) y.Who)
  rw [Hk]
  simp only [Lz]
  rw [if_neg (by simp),if_neg (by simp),hc]
  simp only [Option.bind_some]
  rw [prs_l y.Who (Pp T (y :: ys) y.Who) (by omega) _ (Jg (Pp T (y :: ys) y.Who) y fun (x3 : List Eu)=>Hk T (y :: ys) (fun x=>some x) ys (0 + 1) x3) (fun _ _ _=>rfl) [] (by simp)]
  have:=DD T (y :: ys) hl hT hc ys [] y ([] ++ prs y.Who (Pp T (y :: ys) y.Who)) rfl (by simp; omega)
  rw [List.length_nil] at this
  rw [this]
  simp [Ru,nb]
theorem GY {α : Type} [DecidableEq α] : ∀ (l : List α) (p : α),(nbF p l).length ≤ l.length
 | [],_=>by simp [nbF]
 | y :: r,p=>by
  unfold nbF
  have:=GY r y
  split <;> simp <;> omega
theorem nb_len {α : Type} [DecidableEq α] (l : List α) : (nb l).length ≤ l.length:=by
 cases l with
 | nil=>simp [nb]
 | cons p r=>have:=GY r p; simp [nb]; omega
theorem JQ (r : List Eu) (hr : r.length < 1000000000) (need : Int) : Ib r need = some (r.filter fun x=>!decide (need ≤ x.Long)) :=
 del_is (Eu.mk Eo (Dx.mk Eo 0 (Gt.mk 0 0)) (Dx.mk Eo 0 (Gt.mk 0 0)) 0) (fun s=>decide (need ≤ s.Long)) (Fh need (-1)) (Ez need fun (x1 : List Eu) (x2 : Int)=>Chk (Tl x2 (x1.length : Int) x1.length) (Chk (Tl 0 x2 (clr x1 x2 (x1.length : Int) (Eu.mk Eo (Dx.mk Eo 0 (Gt.mk 0 0)) (Dx.mk Eo 0 (Gt.mk 0 0)) 0)).length) (some (cut (clr x1 x2 (x1.length : Int) (Eu.mk Eo (Dx.mk Eo 0 (Gt.mk 0 0)) (Dx.mk Eo 0 (Gt.mk 0 0)) 0)) (0 : Int) x2))))
  (fun _=>rfl) (fun _ _ _=>rfl) (fun _ _ _ _=>rfl) r hr
theorem EG (T : List Dx) (l : List Eh) (hT : T.length ≤ 10000) : ∀ ws : List ByteArray,(Ru T l ws).length ≤ 10000 * ws.length
 | []=>by simp [Ru]
 | w :: ws=>by
  have ih:=EG T l hT ws
  have hm:=Zr T l w
  have hp:=DC w (Pp T l w)
  unfold Ru at ih ⊢
  rw [List.flatMap_cons,List.length_append,List.length_cons]
  omega
end Go.Proofs.YtombbefepcipcaaGreatDoor
namespace Go.Proofs.YtombbefepcipcaaGreatDoor
open Go
def DE (l : List Eh) (w key : ByteArray) (h : Int) : Bool:=l.any fun c=>decide (Eh.mk w key h = c)
def Zs (y : An) (t h : Int) : Dx:=Dx.mk y.Key h (Gt.mk (t + (h - 1) * (y.Long + y.Gap)) (t + (h - 1) * (y.Long + y.Gap) + y.Long))
def hts : Nat → Int → List Int
 | 0,_=>[]
 | k + 1,h=>h :: hts k (h + 1)
theorem JR (h X : Int) : (h + 1 - 1) * X = (h - 1) * X + X:=by rw [show h + 1 - 1 = (h - 1) + 1 by omega,Int.add_mul,Int.one_mul]
theorem EH (y : An) (t : Int) : ∀ (k : Nat) (h : Int),hs y k h (t + (h - 1) * (y.Long + y.Gap)) = (hts k h).map (Zs y t)
 | 0,_=>rfl
 | k + 1,h=>by
  have ih:=EH y t k (h + 1)
  rw [JR] at ih
  rw [hs,hts,List.map_cons,← ih]
  congr 2
  omega
def Ow (l : List Eh) (w : ByteArray) (y : An) : List Int:=(hts y.Heats.toNat 1).filter (DE l w y.Key)
theorem mine_hs (l : List Eh) (w : ByteArray) (y : An) (t : Int) : Pp (hs y y.Heats.toNat 1 t) l w = (Ow l w y).map (Zs y t):=by
 have h:=EH y t y.Heats.toNat 1
 rw [show t + (1 - 1) * (y.Long + y.Gap) = t by simp] at h
 rw [h]
 unfold Pp Ow
 rw [List.filter_map]
 rfl
def Uz (y : An) (t : Int) : Int:=Qf y y.Heats.toNat t + y.Break
def blk (l : List Eh) (w : ByteArray) : List An → Int → List Dx
 | [],_=>[]
 | y :: ys,t=>(Ow l w y).map (Zs y t) ++ blk l w ys (Uz y t)
theorem GZ (l : List Eh) (w : ByteArray) : ∀ (M : List An) (t : Int),Pp (tt M t) l w = blk l w M t
 | [],_=>rfl
 | y :: ys,t=>by
  have ih:=GZ l w ys (Uz y t)
  have e : Pp (tt (y :: ys) t) l w = Pp (hs y y.Heats.toNat 1 t) l w ++ Pp (tt ys (Uz y t)) l w:=by
   unfold Pp
   rw [tt,List.filter_append]
   rfl
  rw [e,mine_hs,ih,blk]
def Wt (need : Int) (p : Option Int) (f : Int) : Int:=match p with
 | some e=>if f - e < need then 1 else 0
 | none=>0
def Wu (need : Int) : Option Int → List Dx → Int
 | _,[]=>0
 | p,s :: r=>Wt need p s.Time.From + Wu need (some s.Time.To) r
def InT (l : List Dx) : Prop:=∀ s ∈ l,0 ≤ s.Time.From ∧ s.Time.From ≤ 1000000000000 ∧ 0 ≤ s.Time.To ∧ s.Time.To ≤ 1000000000000
theorem JS (need : Int) (w : ByteArray) : ∀ (r : List Dx) (p : Dx),InT (p :: r) → (((pr w p r).filter fun x=>!decide (need ≤ x.Long)).length : Int) = Wu need (some p.Time.To) r
 | [],_,_=>rfl
 | s :: r,p,h=>by
  have h1:=h p (by simp)
  have h2:=h s (by simp)
  have ih:=JS need w r s (fun z hz=>h z (by simp [hz]))
  rw [pr,Ks (by omega) (by omega),Wu,Wt,List.filter_cons]
  by_cases hc : need ≤ s.Time.From - p.Time.To
  ·rw [if_neg (by simp [hc]),if_neg (by omega),ih]; omega
  ·rw [if_pos (by simp [hc]),if_pos (by omega),List.length_cons]
   push_cast
   rw [ih]; omega
theorem prs_cnt (need : Int) (w : ByteArray) (l : List Dx) (h : InT l) : (((prs w l).filter fun x=>!decide (need ≤ x.Long)).length : Int) = Wu need none l:=by
 cases l with
 | nil=>rfl
 | cons p r =>
  rw [prs,JS need w r p h,Wu,Wt]
  omega
def cI (need L G : Int) : List Int → Int
 | []=>0
 | [_]=>0
 | a :: b :: r=>(if (b - a - 1) * L + (b - a) * G < need then 1 else 0) + cI need L G (b :: r)
def lst : Int → List Int → Int
 | h,[]=>h
 | _,h :: r=>lst h r
theorem BH (need : Int) (y : An) (t : Int) (rest : List Dx) : ∀ (r : List Int) (h : Int) (p : Option Int),
  Wu need p ((h :: r).map (Zs y t) ++ rest) = Wt need p (t + (h - 1) * (y.Long + y.Gap)) + cI need y.Long y.Gap (h :: r) + Wu need (some (t + (lst h r - 1) * (y.Long + y.Gap) + y.Long)) rest
 | [],h,p=>by
  simp only [List.map_cons,List.map_nil,List.cons_append,List.nil_append,Wu,cI,lst,Zs]
  omega
 | b :: r,h,p=>by
  have ih:=BH need y t rest r b (some (t + (h - 1) * (y.Long + y.Gap) + y.Long))
  simp only [List.map_cons,List.cons_append] at ih ⊢
  rw [Wu,cI,lst]
  have e : (Zs y t h).Time.To = t + (h - 1) * (y.Long + y.Gap) + y.Long:=rfl
  rw [e,ih]
  have e2 : (Zs y t h).Time.From = t + (h - 1) * (y.Long + y.Gap):=rfl
  rw [e2]
  have hg : Wt need (some (t + (h - 1) * (y.Long + y.Gap) + y.Long)) (t + (b - 1) * (y.Long + y.Gap)) = if (b - h - 1) * y.Long + (b - h) * y.Gap < need then 1 else 0:=by
   unfold Wt
   have e3 : (b - 1) * (y.Long + y.Gap) = (h - 1) * (y.Long + y.Gap) + ((b - h) * y.Long + (b - h) * y.Gap):=by
    rw [show b - 1 = (h - 1) + (b - h) by omega,Int.add_mul,Int.mul_add (b - h)]
   have e4 : (b - h - 1) * y.Long = (b - h) * y.Long - y.Long:=by rw [Int.sub_mul,Int.one_mul]
   rw [e3,e4]
   simp only
   congr 1
   exact propext ⟨fun h=>by omega,fun h=>by omega⟩
  rw [hg]
  omega
section
variable (need : Int) (l : List Eh) (w : ByteArray)
def DF : List An → Option Int → Int → Int
 | [],_,_=>0
 | y :: ys,p,t=>match Ow l w y with
  | []=>DF ys p (Uz y t)
  | h :: r=>Wt need p (t + (h - 1) * (y.Long + y.Gap)) + DF ys (some (t + (lst h r - 1) * (y.Long + y.Gap) + y.Long)) (Uz y t)
theorem DG : ∀ (M : List An) (p : Option Int) (t : Int),Wu need p (blk l w M t) = (M.map fun y=>cI need y.Long y.Gap (Ow l w y)).sum + DF need l w M p t
 | [],_,_=>rfl
 | y :: ys,p,t=>by
  rw [blk,DF,List.map_cons,List.sum_cons]
  cases hh : Ow l w y with
  | nil =>
   simp only [List.map_nil,List.nil_append]
   rw [DG ys p (Uz y t),cI]
   omega
  | cons h r =>
   simp only
   rw [BH,DG ys _ (Uz y t)]
   omega
end
theorem EI (need : Int) (T : List Dx) (l : List Eh) (hT : InT T) : ∀ ws : List ByteArray,(((Ru T l ws).filter fun x=>!decide (need ≤ x.Long)).length : Int) = (ws.map fun w=>Wu need none (Pp T l w)).sum
 | []=>rfl
 | w :: ws=>by
  have e : Ru T l (w :: ws) = prs w (Pp T l w) ++ Ru T l ws:=by simp [Ru]
  rw [e,List.filter_append,List.length_append,List.map_cons,List.sum_cons]
  push_cast
  rw [prs_cnt need w (Pp T l w) (fun s hs=>hT s (List.mem_filter.1 hs).1),EI need T l hT ws]
end Go.Proofs.YtombbefepcipcaaGreatDoor
namespace Go.Proofs.YtombbefepcipcaaGreatDoor
open Go
def hC (l : List Eh) (w key : ByteArray) : List Int:=(l.filter fun c=>decide (c.Who = w) && decide (c.Item = key)).map (·.Heat)
def spn : List Int → Dw
 | []=>Dw.mk 0 0
 | h :: r=>Dw.mk h (lst h r)
theorem EJ : ∀ (r : List Int) (h x : Int),lst h (r ++ [x]) = x
 | [],_,_=>rfl
 | b :: r,h,x=>by rw [List.cons_append,lst,EJ r b x]
theorem JT (l : List Int) (x : Int) : spn (l ++ [x]) = Dw.mk (if l = [] then x else (spn l).first_) x:=by
 cases l with
 | nil=>rfl
 | cons h r=>rw [List.cons_append,spn,EJ,if_neg (by simp)]; rfl
theorem HA (need L G : Int) : ∀ (r : List Int) (h x : Int),cI need L G (h :: r ++ [x]) = cI need L G (h :: r) + if (x - lst h r - 1) * L + (x - lst h r) * G < need then 1 else 0
 | [],h,x=>by by_cases hq : (x - h - 1) * L + (x - h) * G < need <;> simp [cI,lst,hq]
 | b :: r,h,x=>by
  have ih:=HA need L G r b x
  simp only [List.cons_append] at ih ⊢
  rw [cI,ih,cI,lst]
  omega
theorem Yu : ∀ (r : List Int) (h : Int),lst h r ∈ h :: r
 | [],h=>by simp [lst]
 | b :: r,h=>by rw [lst]; exact List.mem_cons_of_mem _ (Yu r b)
theorem DH (l : List Eh) (c : Eh) (w key : ByteArray) : hC (l ++ [c]) w key = hC l w key ++ if c.Who = w ∧ c.Item = key then [c.Heat] else []:=by
 unfold hC
 rw [List.filter_append,List.map_append]
 congr 1
 by_cases h : c.Who = w ∧ c.Item = key
 ·rw [if_pos h]; simp [h.1,h.2]
 ·rw [if_neg h]
  have : (decide (c.Who = w) && decide (c.Item = key)) = false:=by
   rw [Bool.and_eq_false_iff]
   by_cases h1 : c.Who = w
   ·exact .inr (decide_eq_false fun h2=>h ⟨h1,h2⟩)
   ·exact .inl (decide_eq_false h1)
  simp [this]
theorem EK {α : Type} [DecidableEq α] : ∀ (r : List α) (p x : α),nbF p (r ++ [x]) = if (p :: r).getLast? = some x then nbF p r else nbF p r ++ [x]
 | [],p,x=>by
  by_cases h : x = p
  ·simp [nbF,h]
  ·have h2 : ¬ p = x:=fun e=>h e.symm
   simp [nbF,h,h2]
 | y :: r,p,x=>by
  have ih:=EK r y x
  rw [List.cons_append,nbF,ih,List.getLast?_cons_cons]
  by_cases h : y = p
  ·rw [if_pos h,nbF,if_pos h]
  ·rw [if_neg h,nbF,if_neg h]
   split <;> rfl
theorem nb_snoc {α : Type} [DecidableEq α] (l : List α) (x : α) : nb (l ++ [x]) = if l.getLast? = some x then nb l else nb l ++ [x]:=by
 cases l with
 | nil=>rfl
 | cons p r =>
  show p :: nbF p (r ++ [x]) = _
  rw [EK]
  split <;> rfl
theorem DI {α : Type} [DecidableEq α] : ∀ (r : List α) (p : α),(p :: nbF p r).getLast? = (p :: r).getLast?
 | [],_=>rfl
 | y :: r,p=>by
  rw [nbF,List.getLast?_cons_cons]
  split
  ·rename_i h; subst h; exact DI r y
  ·rw [List.getLast?_cons_cons]; exact DI r y
theorem FL {α : Type} [DecidableEq α] : ∀ (r : List α) (p x : α),x ∈ nbF p r → x ∈ r
 | [],_,_,h=>by cases h
 | y :: r,p,x,h=>by
  rw [nbF] at h
  split at h
  ·exact List.mem_cons_of_mem _ (FL r y x h)
  ·rcases List.mem_cons.1 h with rfl | h
   ·simp
   ·exact List.mem_cons_of_mem _ (FL r y x h)
theorem nb_in {α : Type} [DecidableEq α] {l : List α} {x : α} (h : x ∈ nb l) : x ∈ l:=by
 cases l with
 | nil=>cases h
 | cons p r =>
  rcases List.mem_cons.1 h with rfl | h
  ·simp
  ·exact List.mem_cons_of_mem _ (FL r p x h)
theorem HB (f g : An → Int) (d : Int) (y : An) (hy : g y = f y + d) : ∀ items : List An,(items.Pairwise fun a b=>a.Key ≠ b.Key) → y ∈ items → (∀ z ∈ items,z.Key ≠ y.Key → g z = f z) → (items.map g).sum = (items.map f).sum + d
 | [],_,h,_=>by cases h
 | z :: items,hd,h,hz=>by
  rw [List.pairwise_cons] at hd
  simp only [List.map_cons,List.sum_cons]
  rcases List.mem_cons.1 h with rfl | h
  ·have e : items.map g = items.map f:=List.map_congr_left fun q hq=>hz q (by simp [hq]) fun e=>hd.1 q hq e.symm
   rw [e,hy]; omega
  ·rw [HB f g d y hy items hd.2 h fun q hq=>hz q (by simp [hq]),hz z (by simp) fun e=>hd.1 y h e]
   omega
def Rk (items : List An) (l : List Eh) (w : ByteArray) : List Dw:=items.map fun y=>spn (hC l w y.Key)
def inW (need : Int) (items : List An) (l : List Eh) (w : ByteArray) : Int:=(items.map fun y=>cI need y.Long y.Gap (hC l w y.Key)).sum
theorem HC {a L : Int} (h1 : -100 ≤ a) (h2 : a ≤ 100) (h3 : 0 ≤ L) (h4 : L ≤ 3600000) : -360000000 ≤ a * L ∧ a * L ≤ 360000000:=by
 have g1 : -100 * L ≤ a * L:=Int.mul_le_mul_of_nonneg_right h1 h3
 have g2 : a * L ≤ 100 * L:=Int.mul_le_mul_of_nonneg_right h2 h3
 omega
theorem who_sep {l : List Eh} (hs : l.Pairwise fun a b=>leB a.Who b.Who) {dn ys : List Eh} {c : Eh} (e : l = dn ++ c :: ys) : dn.getLast?.map (·.Who) ≠ some c.Who → ∀ z ∈ dn,z.Who ≠ c.Who:=by
 intro hne z hz hzc
 rw [e,List.pairwise_append] at hs
 obtain ⟨h1,_,h3⟩:=hs
 rcases List.eq_nil_or_concat dn with rfl | ⟨d,q,hd2⟩
 ·cases hz
 ·rw [List.concat_eq_append] at hd2
  subst hd2
  rw [List.getLast?_append] at hne
  simp only [List.getLast?_singleton,Option.some_or,Option.map_some,ne_eq,Option.some.injEq] at hne
  have hqc:=h3 q (by simp) c (by simp)
  rcases List.mem_append.1 hz with hz | hz
  ·rw [List.pairwise_append] at h1
   have hzq:=h1.2.2 z hz q (by simp)
   rw [hzc] at hzq
   rcases hzq with h | h
   ·rcases hqc with h' | h'
    ·have:=Uj h h'; rw [Th] at this; omega
    ·exact hne h'
   ·exact hne h.symm
  ·rw [List.mem_singleton] at hz
   subst hz
   exact hne hzc
theorem BI : ∀ (r : List ByteArray) (p : ByteArray),(p :: r).Pairwise leB → (p :: nbF p r).Pairwise fun a b=>cB a b < 0
 | [],p,_=>by simp [nbF]
 | y :: r,p,h=>by
  rw [List.pairwise_cons] at h
  have hy:=h.1 y (by simp)
  have ih:=BI r y h.2
  unfold nbF
  by_cases e : y = p
  ·rw [if_pos e]
   rw [e] at ih ⊢
   exact ih
  ·rw [if_neg e]
   have h1 : cB p y < 0:=by
    rcases hy with h | h
    ·exact h
    ·exact absurd h.symm e
   refine List.pairwise_cons.2 ⟨fun z hz=>?_,ih⟩
   rcases List.mem_cons.1 hz with rfl | hz
   ·exact h1
   ·rw [List.pairwise_cons] at ih
    exact Uj h1 (ih.1 z hz)
theorem nb_up {l : List ByteArray} (h : l.Pairwise leB) : (nb l).Pairwise fun a b=>cB a b < 0:=by
 cases l with
 | nil=>exact List.Pairwise.nil
 | cons p r=>exact BI r p h
section inv
variable {items : List An} {need : Int} (hd : items.Pairwise fun a b=>a.Key ≠ b.Key) (hg : ∀ x ∈ items,Kr x)
include hd hg
theorem JU {dn : List Eh} {c : Eh} {k : Nat} {it : An} {s : Int × Rows} (hk : Ea items c.Item = (k : Int)) (hget : items[k]? = some it) (hkey : it.Key = c.Item) (hh : ∀ z ∈ dn ++ [c],1 ≤ z.Heat ∧ z.Heat ≤ 60)
  (hsep : dn.getLast?.map (·.Who) ≠ some c.Who → ∀ z ∈ dn,z.Who ≠ c.Who) (hpre : ∀ pre,nb (dn.map (·.Who)) = pre ++ [c.Who] → c.Who ∉ pre)
  (h1 : s.2 = (nb (dn.map (·.Who))).map (Rk items dn)) (h2 : s.1 = ((nb (dn.map (·.Who))).map (inW need items dn)).sum) (h3 : 0 ≤ s.1 ∧ s.1 ≤ (dn.length : Int)) (hn : dn.length ≤ 2000) :
  (Mi items need (dn.getLast?.map (·.Who)) c s).2 = (nb ((dn ++ [c]).map (·.Who))).map (Rk items (dn ++ [c])) ∧ (Mi items need (dn.getLast?.map (·.Who)) c s).1 = ((nb ((dn ++ [c]).map (·.Who))).map (inW need items (dn ++ [c]))).sum ∧
   0 ≤ (Mi items need (dn.getLast?.map (·.Who)) c s).1 ∧ (Mi items need (dn.getLast?.map (·.Who)) c s).1 ≤ ((dn ++ [c]).length : Int):=by
 have hlast : (dn.map (·.Who)).getLast? = dn.getLast?.map (·.Who):=List.getLast?_map ..
 -- the names,with this one at the end
 obtain ⟨pre,p1,p2,p3,p4⟩ : ∃ pre,nb ((dn ++ [c]).map (·.Who)) = pre ++ [c.Who] ∧ c.Who ∉ pre ∧ (if dn.getLast?.map (·.Who) = some c.Who then s.2 else s.2 ++ [List.replicate items.length (Dw.mk 0 0)]) = (pre ++ [c.Who]).map (Rk items dn) ∧ s.1 = ((pre ++ [c.Who]).map (inW need items dn)).sum:=by
  rw [List.map_append,List.map_singleton,nb_snoc,hlast]
  by_cases hq : dn.getLast?.map (·.Who) = some c.Who
  ·rw [if_pos hq,if_pos hq]
   have hne : dn ≠ []:=fun e=>by rw [e] at hq; cases hq
   cases hdn : dn.map (·.Who) with
   | nil=>exact absurd (List.map_eq_nil_iff.1 hdn) hne
   | cons a r =>
    have hl2:=DI r a
    rw [← hdn,hlast,hq] at hl2
    obtain ⟨pre,hp⟩:=List.getLast?_eq_some_iff.1 hl2
    have hnb : nb (dn.map (·.Who)) = pre ++ [c.Who]:=by rw [hdn]; exact hp
    refine ⟨pre,hp,hpre pre hnb,?_,?_⟩
    ·rw [h1,hnb]
    ·rw [h2,hnb]
  ·rw [if_neg hq,if_neg hq]
   have hno:=hsep hq
   have hc0 : ∀ key,hC dn c.Who key = []:=fun key=>by
    unfold hC
    rw [List.filter_eq_nil_iff.2 fun z hz=>by simp [hno z hz]]
    rfl
   refine ⟨nb (dn.map (·.Who)),rfl,fun hm=>?_,?_,?_⟩
   ·obtain ⟨z,hz,e⟩:=List.mem_map.1 (nb_in hm)
    exact hno z hz e
   ·rw [List.map_append,List.map_singleton,h1]
    congr 2
    unfold Rk
    rw [List.map_congr_left (g:=fun _=>Dw.mk 0 0) fun y _=>by rw [hc0]; rfl,List.map_const']
   ·rw [List.map_append,List.map_singleton,List.sum_append,h2]
    have : inW need items dn c.Who = 0:=by
     unfold inW
     rw [List.map_congr_left (g:=fun _=>(0 : Int)) fun y _=>by rw [hc0]; rfl,List.map_const']
     simp
    rw [this]
    simp
 have hklt : k < items.length:=(List.getElem?_eq_some_iff.1 hget).1
 have hit : it ∈ items:=List.mem_of_getElem? hget
 have hgt:=hg it hit
 have hnit : nth items (k : Int) = it:=Pi hget
 have hoth : ∀ w',w' ≠ c.Who → ∀ key,hC (dn ++ [c]) w' key = hC dn w' key:=fun w' hw key=>by rw [DH,if_neg fun e=>hw e.1.symm,List.append_nil]
 have hsame : ∀ z ∈ items,z.Key ≠ it.Key → hC (dn ++ [c]) c.Who z.Key = hC dn c.Who z.Key:=fun z _ hz=>by rw [DH,if_neg fun e=>hz (by rw [hkey]; exact e.2.symm),List.append_nil]
 have hthis : hC (dn ++ [c]) c.Who it.Key = hC dn c.Who it.Key ++ [c.Heat]:=by rw [DH,if_pos ⟨rfl,hkey.symm⟩]
 have hpm : ∀ {β : Type} (F G : ByteArray → β),(∀ w',w' ≠ c.Who → F w' = G w') → pre.map F = pre.map G:=fun F G hFG=>List.map_congr_left fun w' hw'=>hFG w' fun e=>p2 (by rw [← e]; exact hw')
 unfold Mi
 simp only
 rw [p3,p1,hk,Int.toNat_natCast]
 have hlen : ((pre ++ [c.Who]).map (Rk items dn)).length = pre.length + 1:=by simp
 have hrow : nth ((pre ++ [c.Who]).map (Rk items dn)) ((((pre ++ [c.Who]).map (Rk items dn)).length : Int) - 1) = Rk items dn c.Who:=by
  rw [hlen,show ((pre.length + 1 : Nat) : Int) - 1 = (pre.length : Int) by omega]
  exact Pi (by simp)
 rw [hrow]
 have hsp : nth (Rk items dn c.Who) (k : Int) = spn (hC dn c.Who it.Key):=Pi (by unfold Rk; rw [List.getElem?_map,hget]; rfl)
 rw [hsp,hnit,hlen]
 have hemp : (spn (hC dn c.Who it.Key)).last_ = 0 ↔ hC dn c.Who it.Key = []:=by
  constructor
  ·intro h0
   cases hq : hC dn c.Who it.Key with
   | nil=>rfl
   | cons a r =>
    rw [hq] at h0
    have hm:=Yu r a
    rw [← hq] at hm
    unfold hC at hm
    obtain ⟨z,hz,e⟩:=List.mem_map.1 hm
    have:=(hh z (List.mem_append.2 (.inl (List.mem_filter.1 hz).1))).1
    simp only [spn] at h0
    omega
  ·intro h0; rw [h0]; rfl
 refine ⟨?_,?_⟩
 ·rw [show pre.length + 1 - 1 = pre.length by omega]
  have e1 : ((pre ++ [c.Who]).map (Rk items dn)).set pre.length ((Rk items dn c.Who).set k (Dw.mk (if (spn (hC dn c.Who it.Key)).last_ = 0 then c.Heat else (spn (hC dn c.Who it.Key)).first_) c.Heat)) = pre.map (Rk items dn) ++ [(Rk items dn c.Who).set k (Dw.mk (if (spn (hC dn c.Who it.Key)).last_ = 0 then c.Heat else (spn (hC dn c.Who it.Key)).first_) c.Heat)]:=by
   rw [List.map_append,List.set_append_right _ _ (by simp)]
   simp
  rw [e1,List.map_append,hpm (Rk items (dn ++ [c])) (Rk items dn) fun w' hw=>by unfold Rk; exact List.map_congr_left fun y _=>by rw [hoth w' hw],List.map_singleton]
  congr 2
  unfold Rk
  refine List.ext_getElem? fun i=>?_
  rw [List.getElem?_set,List.length_map]
  by_cases hi : k = i
  ·subst hi
   rw [if_pos rfl,if_pos hklt,List.getElem?_map,hget,Option.map_some,hthis,JT]
   by_cases h0 : hC dn c.Who it.Key = []
   ·rw [if_pos h0,if_pos (hemp.2 h0)]
   ·rw [if_neg h0,if_neg fun e=>h0 (hemp.1 e)]
  ·rw [if_neg hi,List.getElem?_map,List.getElem?_map]
   cases hq : items[i]? with
   | none=>rfl
   | some z =>
    have hz : z ∈ items:=List.mem_of_getElem? hq
    have hzk : z.Key ≠ it.Key:=by
     rw [List.pairwise_iff_getElem] at hd
     obtain ⟨i1,i2⟩:=List.getElem?_eq_some_iff.1 hq
     obtain ⟨k1,k2⟩:=List.getElem?_eq_some_iff.1 hget
     rw [← i2,← k2]
     rcases Nat.lt_or_ge i k with h | h
     ·exact hd i k i1 k1 h
     ·exact fun e=>hd k i k1 i1 (by omega) e.symm
    rw [Option.map_some,Option.map_some,hsame z hz hzk]
 ·have hinW : inW need items (dn ++ [c]) c.Who = inW need items dn c.Who + (if hC dn c.Who it.Key = [] then 0 else if (c.Heat - (spn (hC dn c.Who it.Key)).last_ - 1) * it.Long + (c.Heat - (spn (hC dn c.Who it.Key)).last_) * it.Gap < need then 1 else 0):=by
   unfold inW
   refine HB _ _ _ it ?_ items hd hit fun z hz hzk=>by rw [hsame z hz hzk]
   rw [hthis]
   cases hq : hC dn c.Who it.Key with
   | nil=>simp [cI]
   | cons a r=>rw [HA,if_neg (show ¬ (a :: r = []) from List.cons_ne_nil a r)]; rfl
  have hsum : ((pre ++ [c.Who]).map (inW need items (dn ++ [c]))).sum = ((pre ++ [c.Who]).map (inW need items dn)).sum + (if hC dn c.Who it.Key = [] then 0 else if (c.Heat - (spn (hC dn c.Who it.Key)).last_ - 1) * it.Long + (c.Heat - (spn (hC dn c.Who it.Key)).last_) * it.Gap < need then 1 else 0):=by
   rw [List.map_append,List.map_append,List.sum_append,List.sum_append,hpm (inW need items (dn ++ [c])) (inW need items dn) fun w' hw=>by unfold inW; rw [List.map_congr_left fun y _=>by rw [hoth w' hw]]]
   simp only [List.map_singleton,List.sum_singleton,hinW]
   omega
  rw [hsum,← p4]
  by_cases h0 : hC dn c.Who it.Key = []
  ·rw [if_pos (hemp.2 h0),if_pos h0,List.length_append,List.length_singleton]
   push_cast
   omega
  ·rw [if_neg fun e=>h0 (hemp.1 e),if_neg h0]
   obtain ⟨l1,l2⟩ : 1 ≤ (spn (hC dn c.Who it.Key)).last_ ∧ (spn (hC dn c.Who it.Key)).last_ ≤ 60:=by
    cases hq : hC dn c.Who it.Key with
    | nil=>exact absurd hq h0
    | cons a r =>
     have hm:=Yu r a
     rw [← hq] at hm
     unfold hC at hm
     obtain ⟨z,hz,e⟩:=List.mem_map.1 hm
     have:=hh z (List.mem_append.2 (.inl (List.mem_filter.1 hz).1))
     simp only [spn]
     omega
   obtain ⟨c1,c2⟩:=hh c (by simp)
   unfold Kr at hgt
   generalize (spn (hC dn c.Who it.Key)).last_ = la at *
   obtain ⟨m1,m2⟩:=HC (a:=c.Heat - la - 1) (L:=it.Long) (by omega) (by omega) (by omega) (by omega)
   obtain ⟨m3,m4⟩:=HC (a:=c.Heat - la) (L:=it.Gap) (by omega) (by omega) (by omega) (by omega)
   rw [Ks (n:=c.Heat - la) (by omega) (by omega),Ks (n:=c.Heat - la - 1) (by omega) (by omega),Ks (n:=(c.Heat - la - 1) * it.Long) (by omega) (by omega),Ks (n:=(c.Heat - la) * it.Gap) (by omega) (by omega),Ks (n:=(c.Heat - la - 1) * it.Long + (c.Heat - la) * it.Gap) (by omega) (by omega),List.length_append,List.length_singleton]
   split
   ·rw [Ks (by omega) (by omega)]
    push_cast
    omega
   ·push_cast
    omega
theorem JV {l : List Eh} (hl : l.length ≤ 2000) (hs : l.Pairwise fun a b=>leB a.Who b.Who) (hcv : ∀ c ∈ l,∃ (k : Nat) (it : An),Ea items c.Item = (k : Int) ∧ items[k]? = some it ∧ it.Key = c.Item) (hh : ∀ z ∈ l,1 ≤ z.Heat ∧ z.Heat ≤ 60) : ∀ (ys dn : List Eh) (s : Int × Rows),l = dn ++ ys →
  s.2 = (nb (dn.map (·.Who))).map (Rk items dn) → s.1 = ((nb (dn.map (·.Who))).map (inW need items dn)).sum → (0 ≤ s.1 ∧ s.1 ≤ (dn.length : Int)) →
  (Ol items need (dn.getLast?.map (·.Who)) ys s).2 = (nb (l.map (·.Who))).map (Rk items l) ∧ (Ol items need (dn.getLast?.map (·.Who)) ys s).1 = ((nb (l.map (·.Who))).map (inW need items l)).sum ∧ 0 ≤ (Ol items need (dn.getLast?.map (·.Who)) ys s).1 ∧ (Ol items need (dn.getLast?.map (·.Who)) ys s).1 ≤ (l.length : Int):=by
 intro ys
 induction ys with
 | nil =>
  intro dn s e h1 h2 h3
  rw [List.append_nil] at e
  rw [e]
  exact ⟨h1,h2,h3⟩
 | cons c ys ihy =>
  intro dn s e h1 h2 h3
  obtain ⟨k,it,k1,k2,k3⟩:=hcv c (by rw [e]; simp)
  have hlen : l.length = dn.length + (ys.length + 1):=by rw [e]; simp
  have a1 : ∀ z ∈ dn ++ [c],1 ≤ z.Heat ∧ z.Heat ≤ 60:=fun z hz=>hh z (by
   rw [e]
   rcases List.mem_append.1 hz with h | h
   ·exact List.mem_append.2 (.inl h)
   ·rw [List.mem_singleton] at h
    rw [h]
    exact List.mem_append.2 (.inr (List.mem_cons_self ..)))
  have hP : (dn.map (·.Who)).Pairwise leB:=by
   rw [List.pairwise_map]
   rw [e,List.pairwise_append] at hs
   exact hs.1
  have hu:=nb_up hP
  have a2 : ∀ pre,nb (dn.map (·.Who)) = pre ++ [c.Who] → c.Who ∉ pre:=fun pre hp hm=>by
   rw [hp,List.pairwise_append] at hu
   have:=hu.2.2 c.Who hm c.Who (List.mem_singleton.2 rfl)
   rw [Th] at this
   omega
  obtain ⟨g1,g2,g3⟩:=JU (need:=need) hd hg k1 k2 k3 a1 (who_sep hs e) a2 h1 h2 h3 (by omega)
  rw [Ol]
  generalize Mi items need (dn.getLast?.map (·.Who)) c s = s' at g1 g2 g3 ⊢
  have hp : (dn ++ [c]).getLast?.map (·.Who) = some c.Who:=by simp
  rw [← hp]
  exact ihy (dn ++ [c]) s' (e.trans (List.append_cons _ _ _)) g1 g2 g3
end inv
end Go.Proofs.YtombbefepcipcaaGreatDoor
namespace Go.Proofs.YtombbefepcipcaaGreatDoor
open Go
def ltK (x y : An) : Bool:=decide (Ka x y < 0)
theorem len_o : ∀ n : Fin 13,(Rq (IntKind.wrap .u64 (n.val : Int))).isSome = true:=by decide +kernel
theorem HY (l : List An) (hl : l.length ≤ 12) : Gk l 0 (l.length : Int) = some (Jv ltK l):=by
 unfold Gk
 simp only [Lz]
 have hins : ∀ (k : List An → Option (List An)) (rp : List An) (x : An) (post : List An),((rp ++ x :: post).length : Int) = (l.length : Int) → (∀ y,y ∈ rp ∨ y = x ∨ y ∈ post → y ∈ (rp ++ x :: post)) →
   El 0 k (((rp.length : Int) - 0).toNat + 2) (rp.reverse ++ x :: post) (rp.length : Int) = k ((Rj ltK x rp).reverse ++ post):=by
  intro k rp x post h1 _
  exact GT (fun x y k=>k (ltK x y)) ltK k (El 0 k) (fun _ _ _=>rfl) rp x post _ (by omega) (by simp at h1; omega) fun y _ k'=>rfl
 cases l with
 | nil=>rfl
 | cons x l =>
  have hw : W (0 + 1) = (([x] : List An).length : Int):=rfl
  rw [hw]
  exact Yt ltK (fun x=>some x) (fun k x i=>El 0 k ((i - 0).toNat + 2) x i) (Es ((x :: l).length : Int) 0 fun x=>some x) ((x :: l).length : Int) (fun _ _ _=>rfl)
   (fun k rp x post h1 h2=>hins k rp x post h1 h2) l [x] _ (by simp only [List.length_cons,List.length_nil]; omega) (by simp only [List.length_cons,List.length_nil]; omega) (by simp only [List.length_cons,List.length_nil] at hl ⊢; omega)
theorem JW (l : List An) (hl : l.length ≤ 12) : Hi l = some (Jv ltK l):=by
 unfold Hi
 obtain ⟨r,hr⟩:=Option.isSome_iff_exists.1 (len_o ⟨l.length,by omega⟩)
 simp only at hr
 rw [hr]
 simp only [Option.bind_some]
 unfold Hn
 rw [show (4611686018427387904 : Nat) = 4611686018427387903 + 1 from rfl,Fa,Ks (by omega) (by omega),if_pos (decide_eq_true (by omega)),HY l hl]
 rfl
theorem EL : ∀ {l : List An} {key : ByteArray},(∃ y ∈ l,y.Key = key) → ∃ k,ixN l key = some k
 | [],_,⟨_,h,_⟩=>by cases h
 | x :: l,key,⟨y,hy,hk⟩=>by
  rw [ixN]
  by_cases h : x.Key = key
  ·exact ⟨0,by rw [if_pos h]⟩
  ·rcases List.mem_cons.1 hy with rfl | hy
   ·exact absurd hk h
   ·obtain ⟨k,e⟩:=EL ⟨y,hy,hk⟩
    exact ⟨k + 1,by rw [if_neg h,e]; rfl⟩
theorem HZ {l : List An} {key : ByteArray} (h : ∃ y ∈ l,y.Key = key) : 0 ≤ Ea l key ∧ Ea l key < (l.length : Int):=by
 obtain ⟨k,e⟩:=EL h
 have:=CW e
 rw [Yq]
 unfold ixI
 rw [e]
 simp only
 omega
def Pm (i n : Nat) : List Int:=(List.range' i n).map fun k : Nat=>(k : Int)
theorem EM (j : List Int → Option ((List ByteArray) × Int × Int)) : ∀ (ys : List An) (i : Nat) (x : List Int),x.length + ys.length ≤ 1000 → Io j ys i x = j (x ++ Pm i ys.length)
 | [],_,x,_=>by rw [Io]; simp [Pm]
 | y :: ys,i,x,h=>by
  simp only [List.length_cons] at h
  rw [Io,Li (by unfold Pj; simp; omega),EM j ys (i + 1) _ (by simp; omega)]
  simp [Pm,List.range'_succ]
theorem EN (s : List An) (j : List ByteArray → Option ((List ByteArray) × Int × Int)) : ∀ (ys : List Int) (i : Nat) (x : List ByteArray),InR s.length ys → x.length + ys.length ≤ 1000 → Ic s j ys i x = j (x ++ ys.map fun k=>(nth s k).Key)
 | [],_,x,_,_=>by rw [Ic]; simp
 | y :: ys,i,x,hk,h=>by
  obtain ⟨h0,h1⟩:=hk y (by simp)
  simp only [List.length_cons] at h
  rw [Ic,Li (Iv.2 ⟨h0,h1⟩),Li (by unfold Pj; simp; omega),EN s j ys (i + 1) _ (fun z hz=>hk z (by simp [hz])) (by simp; omega)]
  simp
theorem Yv (n : Nat) : InR n (Pm 0 n):=fun k hk=>by
 obtain ⟨q,hq,rfl⟩:=List.mem_map.1 hk
 have:=List.mem_range'_1.1 hq
 omega
theorem Qg (i n : Nat) : (Pm i n).length = n:=by simp [Pm]
theorem EO (leaf : List Int → Int × Int) : ∀ (m : Nat) (now rest : List Int) (a : Acc) (b : Nat),a.1.length ≤ b → now.length + rest.length ≤ b → (Vw leaf m now rest a).1.length ≤ b
 | 0,_,_,_,_,h,_=>h
 | m + 1,now,rest,a,b,ha,hb=>by
  rw [Vw]
  split
  ·unfold Vv
   split
   ·show now.length ≤ b; omega
   ·exact ha
  ·have loop : ∀ (ys dn : List Int) (c : Acc),rest = dn ++ ys → c.1.length ≤ b → (AE (Vw leaf m) now rest ys dn.length c).1.length ≤ b:=by
    intro ys
    induction ys with
    | nil=>intro dn c _ hc; exact hc
    | cons y ys ih =>
     intro dn c e hc
     have hl : rest.length = dn.length + (ys.length + 1):=by rw [e]; simp
     have hel:=List.length_eraseIdx_of_lt (l:=rest) (i:=dn.length) (by omega)
     rw [AE]
     have h1:=EO leaf m (now ++ [y]) (rest.eraseIdx dn.length) c b hc (by rw [List.length_append,List.length_singleton]; omega)
     have:=ih (dn ++ [y]) _ (by rw [e]; simp) h1
     rw [List.length_append,List.length_singleton] at this
     exact this
   exact loop rest [] a rfl ha
def Qy (s : List An) (c : List Eh) (need : Int) : Acc:=Vw (Sr s need (Ol s need none c (0,[])).1 (Ol s need none c (0,[])).2) 16 [] (Pm 0 s.length) ([],0,0,false)
theorem JX {x : List An} {c : List Eh} {need : Int} (hsw : Iz x c = some 0) (hg : ∀ z ∈ x,Kr z) (hcv : ∀ z ∈ c,∃ k y,CV x z k y) (hx : x.length ≤ 8) (hc : c.length ≤ 2000) (n0 : 0 ≤ need) (n1 : need ≤ 3600000) :
  Pd x c need = some (if 345686400000 < Ok (tt x 0) 0 then ([],0,1) else ((Qy (Jv ltK x) c need).1.map (fun k=>(nth (Jv ltK x) k).Key),(Qy (Jv ltK x) c need).2.1,0)):=by
 have hlen:=Zn ltK x
 have hk : ∀ z ∈ c,0 ≤ Ea (Jv ltK x) z.Item ∧ Ea (Jv ltK x) z.Item < ((Jv ltK x).length : Int):=fun z hz=>by
  obtain ⟨k,y,h⟩:=hcv z hz
  refine HZ ⟨y,(Ur ltK x y).2 (List.mem_of_getElem? h.get),?_⟩
  have hkey : ∀ {l : List An} {key : ByteArray} {k : Nat} {y : An},ixN l key = some k → l[k]? = some y → y.Key = key:=by
   intro l
   induction l with
   | nil=>intro key k y h; cases h
   | cons q l ih =>
    intro key k y h h2
    rw [ixN] at h
    split at h
    ·rename_i hq
     obtain rfl:=Option.some.inj h
     simp at h2
     rw [← h2]; exact hq
    ·obtain ⟨k',h3,h4⟩:=Option.map_eq_some_iff.1 h
     subst h4
     exact ih h3 (by simpa using h2)
  exact hkey h.ix h.get
 obtain ⟨e1,e2,e3⟩:=CZ (items:=Jv ltK x) (l:=c) (need:=need) (by omega) hc hk
 have hW : En need 0 3600000 = true:=by unfold En; simp; omega
 have htt:=Zk x 0 hg
 have hbl : (Qy (Jv ltK x) c need).1.length ≤ (Jv ltK x).length:=EO _ _ _ _ _ _ (by simp) (by rw [Qg]; simp)
 have hbi : InR (Jv ltK x).length (Qy (Jv ltK x) c need).1:=GU _ _ _ _ _ (fun _ h=>by cases h) (Yv _) (fun _ h=>by cases h)
 unfold Pd
 rw [hsw,Option.bind_some,if_neg (by simp),if_neg (by simp only [decide_eq_true_eq]; omega)]
 simp only [Lz]
 rw [hW,if_neg (by simp),Wp x 0 hg (by omega) (by omega) (by omega),Option.bind_some,JA _ _ (by omega),Option.bind_some]
 by_cases hE : 345686400000 < Ok (tt x 0) 0
 ·rw [if_pos (decide_eq_true hE),if_pos hE]
 ·rw [if_neg (by simpa using hE),if_neg hE]
  unfold Lb
  rw [Li (by simp; omega),Option.bind_some,List.nil_append,JW x (by omega),Option.bind_some,e1,Option.bind_some,EM _ _ 0 [] (by simp; omega),List.nil_append]
  have ht:=JI (within:=(Ol (Jv ltK x) need none c (0,[])).1) (need:=need) (show (Jv ltK x).length ≤ 1000 by omega) e2 16 [] (Pm 0 (Jv ltK x).length) ([],0,0,false) (by rw [Qg]; omega) (fun _ h=>by cases h) (Yv _) (by rw [Qg]; simp; omega)
  rw [ht,Option.bind_some]
  show Ic (Jv ltK x) (fun x3=>some (x3,(Qy (Jv ltK x) c need).2.1,0)) (Qy (Jv ltK x) c need).1 0 [] = _
  rw [EN _ _ _ 0 [] hbi (by simp; omega),List.nil_append]
end Go.Proofs.YtombbefepcipcaaGreatDoor
namespace Go.Proofs.YtombbefepcipcaaGreatDoor
open Go
theorem Yw : ∀ (k : Nat) (h x : Int),x ∈ hts k h ↔ h ≤ x ∧ x < h + (k : Int)
 | 0,h,x=>by simp only [hts,List.not_mem_nil,false_iff]; omega
 | k + 1,h,x=>by
  rw [hts,List.mem_cons,Yw k (h + 1) x]
  push_cast
  omega
theorem JY : ∀ (k : Nat) (h : Int),(hts k h).Pairwise fun a b=>a < b
 | 0,_=>List.Pairwise.nil
 | k + 1,h=>List.pairwise_cons.2 ⟨fun x hx=>by have:=(Yw k (h + 1) x).1 hx; omega,JY k (h + 1)⟩
def ltZ (a b : Int) : Bool:=decide (a < b)
theorem JZ {l : List Eh} (hs : l.Pairwise fun a b=>cC a b < 0) {w : ByteArray} {y : An} (hy : ∀ c ∈ l,c.Item = y.Key → 1 ≤ c.Heat ∧ c.Heat ≤ y.Heats) : hC l w y.Key = Ow l w y:=by
 refine CX (lt:=ltZ) (fun x=>by unfold ltZ; simp) (fun x z u h1 h2=>by unfold ltZ at *; simp at *; omega) _ _ ?_ ?_ fun x=>?_
 ·unfold hC
  rw [List.pairwise_map]
  refine (hs.filter _).imp_of_mem fun {a b} ha hb h=>?_
  have h1:=(List.mem_filter.1 ha).2
  have h2:=(List.mem_filter.1 hb).2
  simp only [Bool.and_eq_true,decide_eq_true_eq] at h1 h2
  rw [Xo,h1.1,h1.2,h2.1,h2.2,Th,Th] at h
  unfold ltZ
  refine decide_eq_true ?_
  rcases h with h | ⟨_,h | ⟨_,h⟩⟩
  ·omega
  ·omega
  ·exact h
 ·unfold Ow
  exact ((JY _ _).filter _).imp fun h=>by unfold ltZ; exact decide_eq_true h
 ·unfold hC Ow
  rw [List.mem_map,List.mem_filter,Yw]
  constructor
  ·rintro ⟨c,hc,rfl⟩
   obtain ⟨h1,h2⟩:=List.mem_filter.1 hc
   simp only [Bool.and_eq_true,decide_eq_true_eq] at h2
   have h3:=hy c h1 h2.2
   refine ⟨by omega,?_⟩
   unfold DE
   rw [List.any_eq_true]
   exact ⟨c,h1,by rw [← h2.1,← h2.2]; exact decide_eq_true rfl⟩
  ·rintro ⟨_,h2⟩
   unfold DE at h2
   rw [List.any_eq_true] at h2
   obtain ⟨c,h3,h4⟩:=h2
   have h4:=of_decide_eq_true h4
   exact ⟨c,List.mem_filter.2 ⟨h3,by rw [← h4]; simp⟩,by rw [← h4]⟩
theorem Zt {l : List Eh} {w : ByteArray} {y : An} (hg : Kr y) {x : Int} (h : x ∈ Ow l w y) : 1 ≤ x ∧ x ≤ 60:=by
 unfold Ow at h
 have h1:=(Yw _ _ _).1 (List.mem_filter.1 h).1
 unfold Kr at hg
 omega
theorem KA {a L : Int} (h1 : 0 ≤ a) (h2 : a ≤ 100) (h3 : 0 ≤ L) (h4 : L ≤ 10000000) : 0 ≤ a * L ∧ a * L ≤ 1000000000:=by
 have g1 : a * L ≤ 100 * L:=Int.mul_le_mul_of_nonneg_right h2 h3
 exact ⟨Int.mul_nonneg h1 h3,by omega⟩
theorem Xp {x : An} (hg : Kr x) {h : Int} (h1 : 1 ≤ h) (h2 : h ≤ 60) : Gg x h = (h - 1) * (x.Long + x.Gap) ∧ 0 ≤ (h - 1) * (x.Long + x.Gap) ∧ (h - 1) * (x.Long + x.Gap) ≤ 1000000000:=by
 unfold Kr at hg
 obtain ⟨m1,m2⟩:=KA (a:=h - 1) (L:=x.Long + x.Gap) (by omega) (by omega) (by omega) (by omega)
 refine ⟨?_,m1,m2⟩
 unfold Gg
 rw [Ks (n:=h - 1) (by omega) (by omega),Ks (n:=x.Long + x.Gap) (by omega) (by omega),Ks (by omega) (by omega)]
theorem KB (y : An) : ∀ (k : Nat) (t : Int),Qf y (k + 1) t = t + (k : Int) * (y.Long + y.Gap) + y.Long
 | 0,t=>by simp [Qf]
 | k + 1,t=>by
  rw [Qf,KB y k]
  have : ((k + 1 : Nat) : Int) * (y.Long + y.Gap) = (k : Int) * (y.Long + y.Gap) + (y.Long + y.Gap):=by push_cast; rw [Int.add_mul,Int.one_mul]
  rw [this]
  omega
theorem endH_is {y : An} (hg : Kr y) (t : Int) : Qf y y.Heats.toNat t = t + (y.Heats - 1) * (y.Long + y.Gap) + y.Long:=by
 unfold Kr at hg
 obtain ⟨k,hk⟩ : ∃ k : Nat,y.Heats.toNat = k + 1:=⟨y.Heats.toNat - 1,by omega⟩
 rw [hk,KB,show y.Heats - 1 = (k : Int) by omega]
theorem Zu {y : An} (hg : Kr y) (t : Int) : t ≤ Uz y t ∧ Uz y t ≤ t + 500000000:=by
 have h:=Oj y hg y.Heats.toNat t
 unfold Uz
 unfold Kr at hg
 omega
section ord
variable {items : List An} (hg : ∀ x ∈ items,Kr x)
theorem FM {l : List Int} {z k v : Int} (h0 : 0 ≤ z) (h1 : 0 ≤ k) (h : z ≠ k) : nth (l.set z.toNat v) k = nth l k:=by
 unfold nth List.getD
 rw [List.getElem?_set_ne (by omega)]
theorem BJ : ∀ (ks fr : List Int) (a e k : Int),k ∉ ks → 0 ≤ k → (∀ z ∈ ks,0 ≤ z) → nth (AD items ks fr a e).1 k = nth fr k
 | [],_,_,_,_,_,_,_=>rfl
 | z :: ks,fr,a,e,k,hk,h0,hz=>by
  rw [List.mem_cons,not_or] at hk
  rw [AD,BJ ks _ _ _ k hk.2 h0 (fun q hq=>hz q (by simp [hq])),FM (hz z (by simp)) h0 (fun e=>hk.1 e.symm)]
def FrOk (items : List An) (fr : List Int) : List Int → Int → Prop
 | [],_=>True
 | k :: ks,t=>nth fr k = t ∧ FrOk items fr ks (Uz (nth items k) t)
include hg
theorem EP {k : Int} (h0 : 0 ≤ k) (h1 : k < (items.length : Int)) : Kr (nth items k):=hg _ (CY h0 h1)
theorem HD : ∀ (ks fr : List Int) (a e : Int),ks.Nodup → InR items.length ks → fr.length = items.length → 0 ≤ a → a + 500000000 * (ks.length : Int) ≤ 1000000000000 → FrOk items (AD items ks fr a e).1 ks a
 | [],_,_,_,_,_,_,_,_=>trivial
 | k :: ks,fr,a,e,hn,hk,hf,h0,hb=>by
  rw [List.nodup_cons] at hn
  obtain ⟨k0,k1⟩:=hk k (by simp)
  have hgk:=EP hg k0 k1
  have hg2:=hgk
  simp only [List.length_cons] at hb
  push_cast at hb
  unfold Kr at hg2
  obtain ⟨b1,b2,b3⟩:=Xp hgk (h:=(nth items k).Heats) (by omega) (by omega)
  have he:=endH_is hgk a
  have hnx:=Zu hgk a
  have hnxt : W ((W ((W (a + (Gg (nth items k) ((nth items k).Heats)))) + ((nth items k).Long))) + ((nth items k).Break)) = Uz (nth items k) a:=by
   rw [b1,Ks (n:=a + _) (by omega) (by omega),Ks (n:=a + _ + (nth items k).Long) (by omega) (by omega),Ks (by omega) (by omega)]
   unfold Uz
   rw [he]
  rw [AD,hnxt]
  have ih:=HD ks (fr.set k.toNat a) (Uz (nth items k) a) (W ((W (a + (Gg (nth items k) ((nth items k).Heats)))) + ((nth items k).Long))) hn.2 (fun z hz=>hk z (by simp [hz])) (by simpa using hf) (by omega) (by omega)
  refine ⟨?_,ih⟩
  rw [BJ ks _ _ _ k hn.1 k0 (fun z hz=>(hk z (by simp [hz])).1)]
  unfold nth List.getD
  rw [List.getElem?_set_self (by omega)]
  rfl
omit hg in
theorem FN {need : Int} {row : List Dw} {fr : List Int} {k : Int} {ks : List Int} {s la : Int} (A B : Int) (hl : (nth row k).last_ ≠ 0) (hA : W (nth fr k + Gg (nth items k) (nth row k).first_) = A) (hB : W (W (nth fr k + Gg (nth items k) (nth row k).last_) + (nth items k).Long) = B) :
  Sq items need row fr (k :: ks) s la = Sq items need row fr ks (if 0 ≤ la ∧ W (A - la) < need then W (s + 1) else s) B:=by
 subst hA hB
 rw [Sq,if_neg hl]
theorem EQ (need : Int) (l : List Eh) (w : ByteArray) (row : List Dw) (fr : List Int) : ∀ (ks : List Int) (s la t : Int),InR items.length ks → (∀ k ∈ ks,nth row k = spn (Ow l w (nth items k))) → FrOk items fr ks t → 0 ≤ t → t + 500000000 * (ks.length : Int) ≤ 1000000000000 →
  (la = -1 ∨ (0 ≤ la ∧ la ≤ 2000000000000)) → 0 ≤ s → s + (ks.length : Int) ≤ 1000000 →
  Sq items need row fr ks s la = s + DF need l w (ks.map (nth items)) (if la < 0 then none else some la) t ∧ 0 ≤ Sq items need row fr ks s la ∧ Sq items need row fr ks s la ≤ s + (ks.length : Int)
 | [],s,la,t,_,_,_,_,_,_,h1,_=>by rw [Sq,List.map_nil,DF]; simp; omega
 | k :: ks,s,la,t,hk,hr,hf,h0,hb,hla,hs,hsb=>by
  obtain ⟨k0,k1⟩:=hk k (by simp)
  have hgk:=EP hg k0 k1
  have hnx:=Zu hgk t
  have hrk:=hr k (by simp)
  obtain ⟨f1,f2⟩:=hf
  simp only [List.length_cons] at hb hsb
  push_cast at hb hsb
  have ih:=fun s la h1 h2 h3=>EQ need l w row fr ks s la (Uz (nth items k) t) (fun z hz=>hk z (by simp [hz])) (fun z hz=>hr z (by simp [hz])) f2 (by omega) (by omega) h1 h2 h3
  rw [List.map_cons,DF]
  simp only [List.length_cons]
  push_cast
  cases hw : Ow l w (nth items k) with
  | nil =>
   rw [Sq,hrk,hw]
   simp only [spn,if_true]
   obtain ⟨i1,i2,i3⟩:=ih s la hla hs (by omega)
   exact ⟨i1,i2,by omega⟩
  | cons h r =>
   have hh1:=Zt hgk (l:=l) (w:=w) (x:=h) (by rw [hw]; simp)
   have hh2:=Zt hgk (l:=l) (w:=w) (x:=lst h r) (by rw [hw]; exact Yu r h)
   obtain ⟨b1,b2,b3⟩:=Xp hgk hh1.1 hh1.2
   obtain ⟨c1,c2,c3⟩:=Xp hgk hh2.1 hh2.2
   have hg2:=hgk
   unfold Kr at hg2
   rw [hw] at hrk
   have hq:=FN (items:=items) (need:=need) (row:=row) (fr:=fr) (k:=k) (ks:=ks) (s:=s) (la:=la) (t + (h - 1) * ((nth items k).Long + (nth items k).Gap)) (t + (lst h r - 1) * ((nth items k).Long + (nth items k).Gap) + (nth items k).Long) (by rw [hrk]; show lst h r ≠ 0; omega)
    (by rw [hrk]; show W (nth fr k + Gg (nth items k) h) = _; rw [f1,b1,Ks (by omega) (by omega)])
    (by rw [hrk]; show W (W (nth fr k + Gg (nth items k) (lst h r)) + _) = _; rw [f1,c1,Ks (n:=t + (lst h r - 1) * _) (by omega) (by omega),Ks (by omega) (by omega)])
   rw [hq]
   simp only
   have hs' : (if 0 ≤ la ∧ W (t + (h - 1) * ((nth items k).Long + (nth items k).Gap) - la) < need then W (s + 1) else s) = s + Wt need (if la < 0 then none else some la) (t + (h - 1) * ((nth items k).Long + (nth items k).Gap)):=by
    rw [Ks (n:=s + 1) (by omega) (by omega)]
    by_cases hl : la < 0
    ·rw [if_neg (fun e=>by omega),if_pos hl]; simp [Wt]
    ·rw [if_neg hl,Ks (n:=_ - la) (by omega) (by omega)]
     unfold Wt
     simp only
     by_cases hc : t + (h - 1) * ((nth items k).Long + (nth items k).Gap) - la < need
     ·rw [if_pos ⟨by omega,hc⟩,if_pos hc]
     ·rw [if_neg fun e=>hc e.2,if_neg hc]; omega
   have hgp : 0 ≤ Wt need (if la < 0 then none else some la) (t + (h - 1) * ((nth items k).Long + (nth items k).Gap)) ∧ Wt need (if la < 0 then none else some la) (t + (h - 1) * ((nth items k).Long + (nth items k).Gap)) ≤ 1:=by
    unfold Wt
    split
    ·split <;> omega
    ·omega
   rw [hs']
   generalize Wt need (if la < 0 then none else some la) (t + (h - 1) * ((nth items k).Long + (nth items k).Gap)) = gp at *
   obtain ⟨i1,i2,i3⟩:=ih (s + gp) (t + (lst h r - 1) * ((nth items k).Long + (nth items k).Gap) + (nth items k).Long) (.inr ⟨by omega,by omega⟩) (by omega) (by omega)
   rw [if_neg (show ¬ t + (lst h r - 1) * ((nth items k).Long + (nth items k).Gap) + (nth items k).Long < 0 by omega)] at i1
   exact ⟨by rw [i1]; omega,i2,by omega⟩
theorem ER (need : Int) (l : List Eh) (fr now : List Int) (hn : InR items.length now) (hr : ∀ w,∀ k ∈ now,nth (Rk items l w) k = spn (Ow l w (nth items k))) (hf : FrOk items fr now 0) (hb : now.length ≤ 1000) : ∀ (ws : List ByteArray) (s : Int),0 ≤ s → s + (now.length : Int) * (ws.length : Int) ≤ 100000 →
  BE items need fr now (ws.map (Rk items l)) s = s + (ws.map fun w=>DF need l w (now.map (nth items)) none 0).sum
 | [],s,_,_=>by simp [BE]
 | w :: ws,s,h0,h1=>by
  simp only [List.length_cons] at h1
  push_cast at h1
  rw [Int.mul_add,Int.mul_one] at h1
  have hp : 0 ≤ (now.length : Int) * (ws.length : Int):=Int.mul_nonneg (by omega) (by omega)
  obtain ⟨i1,i2,i3⟩:=EQ hg need l w (Rk items l w) fr now s (-1) 0 hn (hr w) hf (by omega) (by omega) (.inl rfl) h0 (by omega)
  rw [if_pos (by omega)] at i1
  rw [List.map_cons,BE,ER need l fr now hn hr hf hb ws _ i2 (by omega),i1,List.map_cons,List.sum_cons]
  omega
end ord
theorem KC {α : Type} (f : α → Int) {l l' : List α} (h : l.Perm l') : (l.map f).sum = (l'.map f).sum:=by
 induction h with
 | nil=>rfl
 | cons x _ ih=>simp only [List.map_cons,List.sum_cons,ih]
 | swap x y l=>simp only [List.map_cons,List.sum_cons]; omega
 | trans _ _ ih1 ih2=>exact ih1.trans ih2
theorem Wv (s : List An) : (Pm 0 s.length).map (nth s) = s:=by
 refine List.ext_getElem? fun i=>?_
 unfold Pm
 rw [List.map_map,List.getElem?_map]
 by_cases h : i < s.length
 ·rw [List.getElem?_range' h,Option.map_some,List.getElem?_eq_getElem h]
  simp only [Function.comp,Nat.zero_add,Nat.one_mul]
  rw [Pi (List.getElem?_eq_getElem h)]
 ·rw [List.getElem?_eq_none (by simp; omega),List.getElem?_eq_none (by omega)]
  rfl
theorem BK {α : Type} [DecidableEq α] : ∀ (r : List α) (p : α),(nbF p r).length ≤ r.length
 | [],_=>Nat.le_refl _
 | y :: r,p=>by
  have:=BK r y
  rw [nbF]
  split <;> simp only [List.length_cons] <;> omega
theorem leaf_is {s : List An} {l : List Eh} {need : Int} (hg : ∀ x ∈ s,Kr x) (hd : s.Pairwise fun a b=>a.Key ≠ b.Key) (hs8 : s.length ≤ 8) (hl : l.length ≤ 1000) (hs : l.Pairwise fun a b=>cC a b < 0)
  (hcv : ∀ c ∈ l,∃ (k : Nat) (it : An),Ea s c.Item = (k : Int) ∧ s[k]? = some it ∧ it.Key = c.Item ∧ 1 ≤ c.Heat ∧ c.Heat ≤ it.Heats) {now : List Int} (hp : now.Perm (Pm 0 s.length)) :
  (Sr s need (Ol s need none l (0,[])).1 (Ol s need none l (0,[])).2 now).1 = ((nb (l.map (·.Who))).map fun w=>Wu need none (Pp (tt (now.map (nth s)) 0) l w)).sum:=by
 have hn : InR s.length now:=fun k hk=>Yv _ k (hp.mem_iff.1 hk)
 have hnl : now.length = s.length:=by rw [hp.length_eq,Qg]
 have hnd : now.Nodup:=by
  rw [hp.nodup_iff]
  unfold Pm
  refine List.Pairwise.map _ (fun a b h e=>h ?_) (List.nodup_range' (s:=0) (n:=s.length))
  exact Int.ofNat.inj e
 have hle : l.Pairwise fun a b=>leB a.Who b.Who:=hs.imp fun {a b} h=>by
  rw [Xo] at h
  rcases h with h | ⟨h,_⟩
  ·exact .inl h
  ·exact .inr h
 have hkey : ∀ {y z : An},y ∈ s → z ∈ s → y.Key = z.Key → y = z:=fun {y z} hy hz e=>by
  obtain ⟨i,hi⟩:=List.getElem?_of_mem hy
  obtain ⟨j,hj⟩:=List.getElem?_of_mem hz
  obtain ⟨i1,i2⟩:=List.getElem?_eq_some_iff.1 hi
  obtain ⟨j1,j2⟩:=List.getElem?_eq_some_iff.1 hj
  rw [List.pairwise_iff_getElem] at hd
  rcases Nat.lt_trichotomy i j with h | h | h
  ·exact absurd (by rw [i2,j2]; exact e) (hd i j i1 j1 h)
  ·subst h; rw [← i2,← j2]
  ·exact absurd (by rw [i2,j2]; exact e.symm) (hd j i j1 i1 h)
 have hheat : ∀ y ∈ s,∀ c ∈ l,c.Item = y.Key → 1 ≤ c.Heat ∧ c.Heat ≤ y.Heats:=fun y hy c hc e=>by
  obtain ⟨k,it,_,k2,k3,k4,k5⟩:=hcv c hc
  have : it = y:=hkey (List.mem_of_getElem? k2) hy (by rw [k3,e])
  subst this
  exact ⟨k4,k5⟩
 have hhC : ∀ w,∀ y ∈ s,hC l w y.Key = Ow l w y:=fun w y hy=>JZ hs (hheat y hy)
 obtain ⟨g1,g2,g3,g4⟩:=JV (need:=need) hd hg (by omega) hle (fun c hc=>by obtain ⟨k,it,k1,k2,k3,_⟩:=hcv c hc; exact ⟨k,it,k1,k2,k3⟩) (fun c hc=>by
  obtain ⟨k,it,_,k2,k3,k4,k5⟩:=hcv c hc
  have:=hg it (List.mem_of_getElem? k2)
  unfold Kr at this
  omega) l [] (0,[]) rfl rfl rfl ⟨by omega,by simp⟩
 have hp0 : (([] : List Eh).getLast?.map (·.Who)) = none:=rfl
 rw [hp0] at g1 g2 g3 g4
 have hws : (nb (l.map (·.Who))).length ≤ l.length:=by
  cases hq : l.map (·.Who) with
  | nil=>simp [nb]
  | cons p r =>
   have:=BK r p
   have h2 : (l.map (·.Who)).length = r.length + 1:=by rw [hq]; rfl
   rw [List.length_map] at h2
   show (nbF p r).length + 1 ≤ _
   omega
 have hmul : (now.length : Int) * ((nb (l.map (·.Who))).length : Int) ≤ 8 * 1000:=Int.mul_le_mul (by omega) (by omega) (by omega) (by omega)
 unfold Sr
 simp only
 rw [g1,ER hg need l _ now hn (fun w k hk=>by
  obtain ⟨k0,k1⟩:=hn k hk
  obtain ⟨n,rfl⟩:=Int.eq_ofNat_of_zero_le k0
  have hlt : n < s.length:=by omega
  have e1 : s[n]? = some s[n]:=List.getElem?_eq_getElem hlt
  rw [Pi e1,← hhC w s[n] (List.getElem_mem hlt)]
  refine Pi ?_
  unfold Rk
  rw [List.getElem?_map,e1]; rfl) (HD hg now _ 0 0 hnd hn (by simp) (by omega) (by omega)) (by omega) _ _ g3 (by omega),g2]
 have hM : (now.map (nth s)).Perm s:=by
  have:=hp.map (nth s)
  rw [Wv] at this
  exact this
 have hper : ∀ w,Wu need none (Pp (tt (now.map (nth s)) 0) l w) = inW need s l w + DF need l w (now.map (nth s)) none 0:=fun w=>by
  rw [GZ,DG]
  congr 1
  rw [KC _ hM]
  unfold inW
  have e : (s.map fun y=>cI need y.Long y.Gap (hC l w y.Key)) = s.map fun y=>cI need y.Long y.Gap (Ow l w y):=List.map_congr_left fun y hy=>by rw [hhC w y hy]
  rw [e]
 rw [List.map_congr_left fun w _=>hper w]
 generalize nb (l.map (·.Who)) = ws
 induction ws with
 | nil=>rfl
 | cons w ws ih=>simp only [List.map_cons,List.sum_cons]; omega
end Go.Proofs.YtombbefepcipcaaGreatDoor
namespace Go.Proofs.YtombbefepcipcaaGreatDoor
open Go
def Ww (f : List Int → List Int → List (List Int)) (now rest : List Int) : List Int → Nat → List (List Int)
 | [],_=>[]
 | y :: ys,i=>f (now ++ [y]) (rest.eraseIdx i) ++ Ww f now rest ys (i + 1)
def Vh : Nat → List Int → List Int → List (List Int)
 | 0,_,_=>[]
 | m + 1,now,rest=>if rest = [] then [now] else Ww (Vh m) now rest rest 0
def Ss (leaf : List Int → Int × Int) : List (List Int) → Acc → Acc
 | [],a=>a
 | p :: ps,a=>Ss leaf ps (Vv a p (leaf p))
theorem BL (leaf : List Int → Int × Int) : ∀ (p q : List (List Int)) (a : Acc),Ss leaf (p ++ q) a = Ss leaf q (Ss leaf p a)
 | [],_,_=>rfl
 | x :: p,q,a=>by rw [List.cons_append,Ss,Ss,BL leaf p q]
theorem BM (leaf : List Int → Int × Int) : ∀ (m : Nat) (now rest : List Int) (a : Acc),Vw leaf m now rest a = Ss leaf (Vh m now rest) a
 | 0,_,_,_=>rfl
 | m + 1,now,rest,a=>by
  rw [Vw,Vh]
  split
  ·rfl
  ·have loop : ∀ (ys : List Int) (i : Nat) (b : Acc),AE (Vw leaf m) now rest ys i b = Ss leaf (Ww (Vh m) now rest ys i) b:=by
    intro ys
    induction ys with
    | nil=>intro i b; rfl
    | cons y ys ih=>intro i b; rw [AE,Ww,BL,BM leaf m,ih]
   exact loop rest 0 a
theorem Xq (f : List Int → List Int → List (List Int)) (now rest p : List Int) : ∀ (ys : List Int) (i : Nat),p ∈ Ww f now rest ys i ↔ ∃ (k : Nat) (y : Int),ys[k]? = some y ∧ p ∈ f (now ++ [y]) (rest.eraseIdx (i + k))
 | [],i=>by simp [Ww]
 | y :: ys,i=>by
  rw [Ww,List.mem_append,Xq f now rest p ys (i + 1)]
  constructor
  ·rintro (h | ⟨k,z,h1,h2⟩)
   ·exact ⟨0,y,rfl,h⟩
   ·exact ⟨k + 1,z,by simpa using h1,by rw [show i + (k + 1) = i + 1 + k by omega]; exact h2⟩
  ·rintro ⟨k,z,h1,h2⟩
   cases k with
   | zero=>simp only [List.getElem?_cons_zero,Option.some.injEq] at h1; subst h1; exact .inl h2
   | succ k=>exact .inr ⟨k,z,by simpa using h1,by rw [show i + 1 + k = i + (k + 1) by omega]; exact h2⟩
theorem Rt : ∀ (l : List Int) (k : Nat) (y : Int),l[k]? = some y → (y :: l.eraseIdx k).Perm l
 | [],_,_,h=>by simp at h
 | x :: l,0,y,h=>by simp only [List.getElem?_cons_zero,Option.some.injEq] at h; subst h; exact List.Perm.refl _
 | x :: l,k + 1,y,h=>by
  rw [List.eraseIdx_cons_succ]
  exact (List.Perm.swap x y _).trans ((Rt l k y (by simpa using h)).cons x)
theorem Us : ∀ (m : Nat) (now rest p : List Int),rest.length < m → (p ∈ Vh m now rest ↔ ∃ q,p = now ++ q ∧ q.Perm rest)
 | 0,_,_,_,h=>absurd h (by omega)
 | m + 1,now,rest,p,h=>by
  rw [Vh]
  by_cases h0 : rest = []
  ·rw [if_pos h0,List.mem_singleton,h0]
   constructor
   ·intro e; exact ⟨[],by rw [e,List.append_nil],List.Perm.refl _⟩
   ·rintro ⟨q,e,hq⟩; rw [List.perm_nil.1 hq,List.append_nil] at e; exact e
  ·rw [if_neg h0,Xq]
   have hlen : ∀ {k : Nat} {y : Int},rest[k]? = some y → (rest.eraseIdx k).length < m:=fun {k y} hk=>by
    have:=(Rt rest k y hk).length_eq
    simp only [List.length_cons] at this
    omega
   constructor
   ·rintro ⟨k,y,h1,h2⟩
    rw [Nat.zero_add,Us m _ _ _ (hlen h1)] at h2
    obtain ⟨q,e,hq⟩:=h2
    exact ⟨y :: q,by rw [e]; simp,(hq.cons y).trans (Rt rest k y h1)⟩
   ·rintro ⟨q,e,hq⟩
    cases q with
    | nil=>exact absurd (List.nil_perm.1 hq) h0
    | cons y q =>
     obtain ⟨k,hk⟩:=List.mem_iff_getElem?.1 (hq.mem_iff.1 (List.mem_cons_self (a:=y) (l:=q)))
     refine ⟨k,y,hk,?_⟩
     rw [Nat.zero_add,Us m _ _ _ (hlen hk)]
     exact ⟨q,by rw [e]; simp,(hq.trans (Rt rest k y hk).symm).cons_inv⟩
def ES : List Int → List Int → Prop
 | [],_=>False
 | _ :: _,[]=>False
 | a :: l,b :: r=>a < b ∨ a = b ∧ ES l r
theorem ET : ∀ (n a b : List Int),ES (n ++ a) (n ++ b) ↔ ES a b
 | [],_,_=>Iff.rfl
 | x :: n,a,b=>by
  rw [List.cons_append,List.cons_append,ES,ET n a b]
  constructor
  ·rintro (h | ⟨_,h⟩)
   ·omega
   ·exact h
  ·intro h; exact .inr ⟨rfl,h⟩
theorem BN (f : List Int → List Int → List (List Int)) (now rest : List Int) : ∀ (ys : List Int) (i : Nat),(ys.Pairwise fun a b=>a < b) → (∀ (k : Nat) (y : Int),ys[k]? = some y → (f (now ++ [y]) (rest.eraseIdx (i + k))).Pairwise ES ∧ ∀ p ∈ f (now ++ [y]) (rest.eraseIdx (i + k)),∃ q,p = now ++ [y] ++ q) →
  (Ww f now rest ys i).Pairwise ES
 | [],_,_,_=>List.Pairwise.nil
 | y :: ys,i,h,hf=>by
  rw [List.pairwise_cons] at h
  rw [Ww,List.pairwise_append]
  refine ⟨(hf 0 y rfl).1,BN f now rest ys (i + 1) h.2 fun k z hz=>?_,fun p hp q hq=>?_⟩
  ·have:=hf (k + 1) z (by simpa using hz)
   rw [show i + (k + 1) = i + 1 + k by omega] at this
   exact this
  ·obtain ⟨k,z,h1,h2⟩:=(Xq f now rest q ys (i + 1)).1 hq
   have h3:=(hf (k + 1) z (by simpa using h1)).2 q (by rw [show i + (k + 1) = i + 1 + k by omega]; exact h2)
   obtain ⟨q1,rfl⟩:=(hf 0 y rfl).2 p hp
   obtain ⟨q2,rfl⟩:=h3
   rw [List.append_assoc,List.append_assoc,ET]
   exact .inl (h.1 z (List.mem_of_getElem? h1))
theorem BO : ∀ (m : Nat) (now rest : List Int),rest.length < m → (rest.Pairwise fun a b=>a < b) → (Vh m now rest).Pairwise ES
 | 0,_,_,h,_=>absurd h (by omega)
 | m + 1,now,rest,h,hr=>by
  rw [Vh]
  split
  ·exact List.pairwise_singleton _ _
  ·refine BN _ now rest rest 0 hr fun k y hk=>?_
   have hlen : (rest.eraseIdx (0 + k)).length < m:=by
    have:=(Rt rest k y hk).length_eq
    simp only [List.length_cons] at this
    rw [Nat.zero_add]
    omega
   refine ⟨BO m _ _ hlen (hr.sublist (List.eraseIdx_sublist ..)),fun p hp=>?_⟩
   obtain ⟨q,e,_⟩:=(Us m _ _ _ hlen).1 hp
   exact ⟨q,e⟩
def lt2 (v w : Int × Int) : Prop:=v.1 < w.1 ∨ v.1 = w.1 ∧ v.2 < w.2
instance (v w : Int × Int) : Decidable (lt2 v w):=inferInstanceAs (Decidable (v.1 < w.1 ∨ v.1 = w.1 ∧ v.2 < w.2))
theorem IA {a b c : Int × Int} (h1 : lt2 a b) (h2 : lt2 b c) : lt2 a c:=by unfold lt2 at *; omega
theorem lt2_not {a b c : Int × Int} (h1 : lt2 a b) (h2 : ¬ lt2 c b) : lt2 a c:=by unfold lt2 at *; omega
def KD (leaf : List Int → Int × Int) (ps : List (List Int)) (p : List Int) : Prop:=∃ l1 l2,ps = l1 ++ p :: l2 ∧ (∀ q ∈ l1,lt2 (leaf p) (leaf q)) ∧ ∀ q ∈ l2,¬ lt2 (leaf q) (leaf p)
def Ul (leaf : List Int → Int × Int) (p : List Int) : Acc:=(p,(leaf p).1,(leaf p).2,true)
theorem BP {a : Acc} {leaf : List Int → Int × Int} {p : List Int} : Vv a p (leaf p) = if a.2.2.2 = false ∨ lt2 (leaf p) (a.2.1,a.2.2.1) then Ul leaf p else a:=rfl
theorem Vx (leaf : List Int → Int × Int) : ∀ (ps : List (List Int)) (p0 : List Int),(Ss leaf ps (Ul leaf p0) = Ul leaf p0 ∧ ∀ q ∈ ps,¬ lt2 (leaf q) (leaf p0)) ∨ ∃ p,Ss leaf ps (Ul leaf p0) = Ul leaf p ∧ KD leaf ps p ∧ lt2 (leaf p) (leaf p0)
 | [],p0=>.inl ⟨rfl,fun _ h=>by cases h⟩
 | q :: ps,p0=>by
  rw [Ss,BP]
  have e : (Ul leaf p0).2.2.2 = false ∨ lt2 (leaf q) ((Ul leaf p0).2.1,(Ul leaf p0).2.2.1) ↔ lt2 (leaf q) (leaf p0):=⟨fun h=>h.resolve_left (fun e=>by cases e),.inr⟩
  by_cases h : lt2 (leaf q) (leaf p0)
  ·rw [if_pos (e.2 h)]
   rcases Vx leaf ps q with ⟨h1,h2⟩ | ⟨p,h1,⟨l1,l2,rfl,g1,g2⟩,h3⟩
   ·exact .inr ⟨q,h1,⟨[],ps,rfl,(fun _ h=>by cases h),h2⟩,h⟩
   ·refine .inr ⟨p,h1,⟨q :: l1,l2,rfl,fun z hz=>?_,g2⟩,IA h3 h⟩
    rcases List.mem_cons.1 hz with rfl | hz
    ·exact h3
    ·exact g1 z hz
  ·rw [if_neg fun h'=>h (e.1 h')]
   rcases Vx leaf ps p0 with ⟨h1,h2⟩ | ⟨p,h1,⟨l1,l2,rfl,g1,g2⟩,h3⟩
   ·refine .inl ⟨h1,fun z hz=>?_⟩
    rcases List.mem_cons.1 hz with rfl | hz
    ·exact h
    ·exact h2 z hz
   ·refine .inr ⟨p,h1,⟨q :: l1,l2,rfl,fun z hz=>?_,g2⟩,h3⟩
    rcases List.mem_cons.1 hz with rfl | hz
    ·exact lt2_not h3 h
    ·exact g1 z hz
theorem FO (leaf : List Int → Int × Int) {ps : List (List Int)} (hne : ps ≠ []) (a : Acc) (ha : a.2.2.2 = false) : ∃ p,Ss leaf ps a = Ul leaf p ∧ KD leaf ps p:=by
 cases ps with
 | nil=>exact absurd rfl hne
 | cons q ps =>
  rw [Ss,BP,if_pos (.inl ha)]
  rcases Vx leaf ps q with ⟨h1,h2⟩ | ⟨p,h1,⟨l1,l2,rfl,g1,g2⟩,h3⟩
  ·exact ⟨q,h1,[],ps,rfl,(fun _ h=>by cases h),h2⟩
  ·refine ⟨p,h1,q :: l1,l2,rfl,fun z hz=>?_,g2⟩
   rcases List.mem_cons.1 hz with rfl | hz
   ·exact h3
   ·exact g1 z hz
theorem nums_up (i : Nat) : ∀ n : Nat,(Pm i n).Pairwise fun a b=>a < b:=fun n=>by
 unfold Pm
 rw [List.pairwise_map]
 exact (List.pairwise_lt_range' (s:=i) (n:=n)).imp fun h=>by omega
theorem best_is (s : List An) (c : List Eh) (need : Int) (hs : s.length ≤ 8) : ∃ p,Qy s c need = Ul (Sr s need (Ol s need none c (0,[])).1 (Ol s need none c (0,[])).2) p ∧ p.Perm (Pm 0 s.length) ∧
  ∀ q,q.Perm (Pm 0 s.length) → ¬ lt2 (Sr s need (Ol s need none c (0,[])).1 (Ol s need none c (0,[])).2 q) (Sr s need (Ol s need none c (0,[])).1 (Ol s need none c (0,[])).2 p) ∧ (q = p ∨ ES p q ∨ lt2 (Sr s need (Ol s need none c (0,[])).1 (Ol s need none c (0,[])).2 p) (Sr s need (Ol s need none c (0,[])).1 (Ol s need none c (0,[])).2 q)):=by
 unfold Qy
 generalize Sr s need (Ol s need none c (0,[])).1 (Ol s need none c (0,[])).2 = leaf
 have hm : ∀ q,q ∈ Vh 16 [] (Pm 0 s.length) ↔ q.Perm (Pm 0 s.length):=fun q=>by
  rw [Us 16 [] _ q (by rw [Qg]; omega)]
  constructor
  ·rintro ⟨z,rfl,h⟩; exact h
  ·intro h; exact ⟨q,rfl,h⟩
 have hlex:=BO 16 [] (Pm 0 s.length) (by rw [Qg]; omega) (nums_up 0 _)
 obtain ⟨p,h1,l1,l2,h2,g1,g2⟩:=FO leaf (ps:=Vh 16 [] (Pm 0 s.length)) (fun e=>by
  have:=(hm (Pm 0 s.length)).2 (List.Perm.refl _)
  rw [e] at this
  cases this) ([],0,0,false) rfl
 refine ⟨p,by rw [BM]; exact h1,(hm p).1 (by rw [h2]; simp),fun q hq=>?_⟩
 have hq:=(hm q).2 hq
 rw [h2] at hq hlex
 rw [List.pairwise_append,List.pairwise_cons] at hlex
 rcases List.mem_append.1 hq with hq | hq
 ·have:=g1 q hq
  exact ⟨fun h=>by unfold lt2 at *; omega,.inr (.inr this)⟩
 ·rcases List.mem_cons.1 hq with rfl | hq
  ·exact ⟨fun h=>by unfold lt2 at *; omega,.inl rfl⟩
  ·exact ⟨g2 q hq,.inr (.inl (hlex.2.1.1 q hq))⟩
end Go.Proofs.YtombbefepcipcaaGreatDoor
namespace Go.Proofs.YtombbefepcipcaaGreatDoor
open Go
def cnt (K : List ByteArray) : List ByteArray → Nat
 | []=>0
 | a :: A=>(K.filter fun b=>decide (cB a b < 0)).length + cnt K A
end Go.Proofs.YtombbefepcipcaaGreatDoor
namespace Go.Proofs.YtombbefepcipcaaGreatDoor
open Go
def Dr {α : Type} (a k : Int) (Q : α → Prop) (o : Option (α × Int)) : Prop:=∃ v b,o = some (v,b) ∧ a ≤ b ∧ b ≤ a + k ∧ Q v
abbrev Xy (L : List Int) : Prop:=(L.length : Int) ≤ 9223372036854775807
section
variable {L : List Int} (hL : Xy L) {a : Int} (h0 : 0 ≤ a) (h1 : a ≤ 1000000000000)
include hL h0 h1
theorem next_dr (n : Int) (hn : n ≤ 4611686018427387904) : Dr a 1 (fun v=>0 ≤ v ∧ (v < n ∨ (n < 1 ∧ v = 0))) (Mc L a n):=by
 obtain ⟨v,e,g⟩:=Yp L a n h0 (by omega) hL hn
 exact ⟨v,a + 1,e,by omega,by omega,g⟩
theorem Yx (l : List Int) (hl : 0 < l.length) (hl' : l.length ≤ 1000) : Dr a 1 (fun v=>v ∈ l) (Md L a l):=by
 obtain ⟨v,e,g⟩:=pick_ok L a l h0 (by omega) hL hl hl'
 exact ⟨v,a + 1,e,by omega,by omega,g⟩
theorem HE (n : Int) (hn : n ≤ 4611686018427387904) : Dr a 1 (fun _=>True) (Of L a n):=by
 obtain ⟨v,e⟩:=flip_ok L a n h0 (by omega) hL hn
 exact ⟨v,a + 1,e,by omega,by omega,trivial⟩
theorem EU (low high : Int) (h2 : -1000000000000 ≤ low) (h3 : low ≤ 1000000000000) (h4 : high ≤ 1000000000000) : Dr a 1 (fun v=>low ≤ v ∧ (v ≤ high ∨ v = low)) (On L a low high):=by
 unfold On
 by_cases h : high < low
 ·exact ⟨low,a,by simp [h],by omega,by omega,by omega,.inr rfl⟩
 ·have w1 : W (high - low) = high - low:=Ks (by omega) (by omega)
  have w2 : W (high - low + 1) = high - low + 1:=Ks (by omega) (by omega)
  obtain ⟨v,e,g1,g2⟩:=Yp L a (high - low + 1) h0 (by omega) hL (by omega)
  rw [if_neg (by simpa using h),w1,w2,e]
  have w3 : W (low + v) = low + v:=Ks (by omega) (by omega)
  exact ⟨_,_,rfl,by show a ≤ a + 1; omega,by show a + 1 ≤ a + 1; omega,by simp only [w3]; omega⟩
end
end Go.Proofs.YtombbefepcipcaaGreatDoor
namespace Go.Proofs.YtombbefepcipcaaGreatDoor
open Go
def ltI (x y : An) : Bool:=decide (Ih x y < 0)
theorem IB (l : List An) (hl : l.length ≤ 12) : Gd l 0 (l.length : Int) = some (Jv ltI l):=by
 unfold Gd
 simp only [Lz]
 have hins : ∀ (k : List An → Option (List An)) (rp : List An) (x : An) (post : List An),((rp ++ x :: post).length : Int) = (l.length : Int) → (∀ y,y ∈ rp ∨ y = x ∨ y ∈ post → y ∈ (rp ++ x :: post)) →
   Ek 0 k (((rp.length : Int) - 0).toNat + 2) (rp.reverse ++ x :: post) (rp.length : Int) = k ((Rj ltI x rp).reverse ++ post):=by
  intro k rp x post h1 _
  exact GT (fun x y k=>k (ltI x y)) ltI k (Ek 0 k) (fun _ _ _=>rfl) rp x post _ (by omega) (by simp at h1; omega) fun y _ k'=>rfl
 cases l with
 | nil=>rfl
 | cons x l =>
  have hw : W (0 + 1) = (([x] : List An).length : Int):=rfl
  rw [hw]
  exact Yt ltI (fun x=>some x) (fun k x i=>Ek 0 k ((i - 0).toNat + 2) x i) (Ep ((x :: l).length : Int) 0 fun x=>some x) ((x :: l).length : Int) (fun _ _ _=>rfl)
   (fun k rp x post h1 h2=>hins k rp x post h1 h2) l [x] _ (by simp only [List.length_cons,List.length_nil]; omega) (by simp only [List.length_cons,List.length_nil]; omega) (by simp only [List.length_cons,List.length_nil] at hl ⊢; omega)
theorem KE (l : List An) (hl : l.length ≤ 12) : Gx l = some (Jv ltI l):=by
 unfold Gx
 have h:=len13 ⟨l.length,by omega⟩
 obtain ⟨r,hr⟩:=Option.isSome_iff_exists.1 h
 simp only at hr
 rw [hr]
 simp only [Option.bind_some]
 unfold Hb
 rw [show (4611686018427387904 : Nat) = 4611686018427387903 + 1 from rfl,Ey,Ks (by omega) (by omega),if_pos (decide_eq_true (by omega)),IB l hl]
 rfl
theorem imin3 (n : Int) : DL n 3 ≤ 3:=by
 unfold DL
 split <;> omega
section
variable {L : List Int} (hL : Xy L)
include hL
omit hL in
theorem KF (who : ByteArray) : (([Oc,Od,Oe] : List ByteArray).filter fun w=>decide (w = who)).length ≤ 1:=by
 by_cases h1 : Oc = who
 ·subst h1; decide +kernel
 ·by_cases h2 : Od = who
  ·subst h2; decide +kernel
  ·by_cases h3 : Oe = who
   ·subst h3; decide +kernel
   ·simp [h1,h2,h3]
end
end Go.Proofs.YtombbefepcipcaaGreatDoor
namespace Go.Proofs.YtombbefepcipcaaGreatDoor
open Go

theorem FP (a b : List Dx) (t : Int) : Ok (a ++ b) t = Ok b (Ok a t):=by
 unfold Ok
 rcases List.eq_nil_or_concat b with rfl | ⟨pre,s,rfl⟩
 ·simp
 ·simp [← List.append_assoc]
def nt : List An → Int → Int
 | [],t=>t
 | y :: ys,t=>nt ys (Qf y y.Heats.toNat t + y.Break)
theorem IC (y : An) (k : Nat) (h t u : Int) : Ok (hs y (k + 1) h t) u = Qf y (k + 1) t:=by
 obtain ⟨pre,s,e1,e2⟩:=GN y k h t
 rw [e1,← e2]
 simp [Ok]
theorem Zv : ∀ (l : List An) (t : Int),(∀ x ∈ l,Kr x) → t ≤ nt l t ∧ Ok (tt l t) t ≤ nt l t
 | [],t,_=>⟨Int.le_refl _,Int.le_refl _⟩
 | y :: l,t,hg=>by
  have hy:=hg y List.mem_cons_self
  have hgood:=hy
  unfold Kr at hgood
  have hb:=Oj y hy y.Heats.toNat t
  obtain ⟨h1,h2⟩:=Zv l (Qf y y.Heats.toNat t + y.Break) (fun x hx=>hg x (List.mem_cons_of_mem _ hx))
  obtain ⟨k,hk⟩ : ∃ k,y.Heats.toNat = k + 1:=⟨y.Heats.toNat - 1,by omega⟩
  simp only [nt,tt]
  refine ⟨by omega,?_⟩
  rw [FP,hk,IC,← hk]
  cases hl : tt l (Qf y y.Heats.toNat t + y.Break) with
  | nil=>simp only [Ok,List.getLast?_nil]; omega
  | cons a r =>
   have e : ∀ u v,Ok (a :: r) u = Ok (a :: r) v:=fun u v=>by
    unfold Ok
    cases hx : (a :: r).getLast? with
    | none=>simp at hx
    | some _=>rfl
   rw [hl] at h2
   rw [e _ (Qf y y.Heats.toNat t + y.Break)]
   exact h2
def ends (l : List An) (t : Int) (n : Nat) : Int:=Ok (tt (l.take n) t) t
end Go.Proofs.YtombbefepcipcaaGreatDoor
namespace Go.Proofs.YtombbefepcipcaaGreatDoor
open Go
end Go.Proofs.YtombbefepcipcaaGreatDoor
namespace Go.Proofs.YtombbefepcipcaaGreatDoor
open Go
theorem KG : Nh = some true:=by decide +kernel
end Go.Proofs.YtombbefepcipcaaGreatDoor
namespace Go.Proofs.YtombbefepcipcaaGreatDoor
open Go
def EV : List ByteArray:=[Tv,Tw,Tx,Ty,Vn]
theorem five_i {s : ByteArray} (h : s ∈ EV) : Jh s = some true:=by
 simp only [EV,List.mem_cons,List.not_mem_nil,or_false] at h
 rcases h with rfl | rfl | rfl | rfl | rfl <;> decide +kernel
def KH (x : An) : Prop:=Kr x ∧ x.Key ∈ EV
theorem BQ : ∀ (ys : List An) (i : Nat) (m : List (ByteArray × Bool)),(∀ x ∈ ys,KH x ∧ Kw m x.Key false = false) → ys.Pairwise (fun a b=>a.Key ≠ b.Key) → Hl (fun _=>some 0) ys i m = some 0
 | [],_,_,_,_=>rfl
 | y :: ys,i,m,h,hp=>by
  rw [Hl]
  obtain ⟨⟨hg,hk⟩,hm⟩:=h y List.mem_cons_self
  rw [List.pairwise_cons] at hp
  rw [five_i hk]
  have hr : ((((!(En y.Heats 1 60)) || (!(En y.Long 1 3600000))) || (!(En y.Gap 0 3600000))) || (!(En y.Break 0 3600000))) = false:=by
   unfold Kr at hg
   unfold En
   simp [hg]
  simp only [Option.bind_some,Bool.not_true,Bool.false_eq_true,if_false,hm,hr]
  refine BQ ys (i + 1) _ (fun x hx=>⟨(h x (List.mem_cons_of_mem _ hx)).1,?_⟩) hp.2
  rw [Xn,if_neg (fun e=>hp.1 x hx e.symm)]
  exact (h x (List.mem_cons_of_mem _ hx)).2
section
variable {L : List Int} (hL : Xy L)
include hL
theorem Sf : ∀ (ys : List ByteArray) (i : Nat) (x1 : List An) (a : Int),0 ≤ a → a + 5 * ys.length ≤ 1000000000000 → x1.length + ys.length ≤ 1000 → (∀ y ∈ ys,y ∈ EV) → ys.Pairwise (fun a b=>a ≠ b) → (∀ x ∈ x1,KH x ∧ ∀ y ∈ ys,x.Key ≠ y) → x1.Pairwise (fun a b=>a.Key ≠ b.Key) →
  ∃ x b,Ht L (fun x a=>some (x,a)) ys i x1 a = some (x,b) ∧ a ≤ b ∧ b ≤ a + 5 * ys.length ∧ x.length ≤ x1.length + ys.length ∧ (∀ z ∈ x,KH z) ∧ x.Pairwise (fun a b=>a.Key ≠ b.Key)
 | [],i,x1,a,_,_,_,_,_,h5,h6=>⟨x1,a,rfl,Int.le_refl _,by simp,by simp,fun z hz=>(h5 z hz).1,h6⟩
 | y :: ys,i,x1,a,h0,h1,h2,h3,h4,h5,h6=>by
  rw [Ht]
  rw [List.pairwise_cons] at h4
  simp only [List.length_cons] at h1 h2 ⊢
  obtain ⟨f,b,e,g1,g2,_⟩:=HE hL h0 (by omega) 6 (by omega)
  rw [e]; simp only [Option.bind_some,Uq]
  cases f with
  | true =>
   rw [if_neg (by simp)]
   obtain ⟨x,c,e',g3,g4,g5,g6,g7⟩:=Sf ys (i + 1) x1 b (by omega) (by omega) (by omega) (fun z hz=>h3 z (List.mem_cons_of_mem _ hz)) h4.2 (fun x hx=>⟨(h5 x hx).1,fun z hz=>(h5 x hx).2 z (List.mem_cons_of_mem _ hz)⟩) h6
   exact ⟨x,c,e',by omega,by omega,by omega,g6,g7⟩
  | false =>
   rw [if_pos (by simp)]
   obtain ⟨s,b2,e2,g3,g4,q2⟩:=Yx hL (a:=b) (by omega) (by omega) [1,1,2,3] (by simp) (by simp)
   rw [e2]; simp only [Option.bind_some]
   obtain ⟨t,b3,e3,g5,g6,q3⟩:=Yx hL (a:=b2) (by omega) (by omega) [50,100] (by simp) (by simp)
   rw [e3]; simp only [Option.bind_some]
   obtain ⟨u,b4,e4,g7,g8,q4⟩:=Yx hL (a:=b3) (by omega) (by omega) [0,10,60] (by simp) (by simp)
   rw [e4]; simp only [Option.bind_some]
   obtain ⟨v,b5,e5,g9,g10,q5⟩:=Yx hL (a:=b4) (by omega) (by omega) [0,20,50,200] (by simp) (by simp)
   rw [e5]; simp only [Option.bind_some]
   rw [Ot (by unfold Pj; simp; omega)]
   simp only [List.mem_cons,List.not_mem_nil,or_false] at q2 q3 q4 q5
   have hit : KH (An.mk y s t u v):=⟨by unfold Kr; simp only; omega,h3 y List.mem_cons_self⟩
   obtain ⟨x,c,e',g11,g12,g13,g14,g15⟩:=Sf ys (i + 1) (x1 ++ [An.mk y s t u v]) b5 (by omega) (by omega) (by simp; omega) (fun z hz=>h3 z (List.mem_cons_of_mem _ hz)) h4.2
    (fun x hx=>by
     rcases List.mem_append.1 hx with h | h
     ·exact ⟨(h5 x h).1,fun z hz=>(h5 x h).2 z (List.mem_cons_of_mem _ hz)⟩
     ·rw [List.mem_singleton] at h; subst h; exact ⟨hit,fun z hz=>h4.1 z hz⟩)
    (List.pairwise_append.2 ⟨h6,by simp,fun x hx z hz=>by rw [List.mem_singleton] at hz; subst hz; exact (h5 x hx).2 y List.mem_cons_self⟩)
   simp only [List.length_append,List.length_singleton] at g13
   exact ⟨x,c,e',by omega,by omega,by omega,g14,g15⟩
end
end Go.Proofs.YtombbefepcipcaaGreatDoor
