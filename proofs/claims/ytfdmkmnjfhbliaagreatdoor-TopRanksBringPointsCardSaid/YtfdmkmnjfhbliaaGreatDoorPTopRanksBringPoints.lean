/- The plain law of TopRanksBringPoints. No program stands here but its twins. -/
import Derived.Test.YtfdmkmnjfhbliaaGreatDoorPHang
namespace Go.Proofs.YtfdmkmnjfhbliaaGreatDoor
open Go
theorem UU (t : Jx) (j : List Dp → Option (List Dp)) (R : List Dp) : ∀ (Gs : List (List Dj)) (i : Nat) (x : List Dp),La t j Gs i x = some R → j (x ++ (Gs.map fun g=>(Qd t g).getD []).flatten) = some R
 | [],i,x,h=>by rw [La] at h; simpa using h
 | g :: Gs,i,x,h=>by
  rw [La] at h
  obtain ⟨r,h1,h⟩:=OL h
  have:=UU t j R Gs (i + 1) _ (Xk h).2
  rw [List.map_cons,List.flatten_cons,h1]
  simpa using this
theorem rowsE (t : Jx) (Gs : List (List Dj)) (h1 : ∀ g ∈ Gs,One g ∧ g.length ≤ 5) (h2 : Gs.Pairwise (fun g g'=>∀ x ∈ g,∀ y ∈ g',x.Race ≠ y.Race)) (hl : Gs.flatten.length ≤ 15) {R : List Dp} (h : Nn t Gs.flatten = some R) : R = (Gs.map fun g=>(Qd t g).getD []).flatten:=by
 unfold Nn at h
 rw [GU Gs (fun g hg=>(h1 g hg).1) h2 (by omega)] at h
 simp only [Option.bind_some,Jl] at h
 have:=UU t _ R Gs 0 [] h
 rw [List.nil_append] at this
 exact (Option.some.inj this).symm
def WJ (t : Jx) (g : List Dj) : List Dp:=if g = [] then [] else (Qd t g).getD []
theorem SL {p : Jr} (hp : Vd p) {F : List Di} (h : FG F) {r : Du} (hr : r ∈ p.Races) : Qz p F r = WJ p.Table (Ql r F):=by
 obtain ⟨_,h1,_⟩:=Zp hp h hr
 have hG:=KV (hp.races r hr).2 (AG h r)
 have e:=EF (Ql r F)
 rw [← e] at h1
 have:=rowsE p.Table (OI (Ql r F)) hG.one hG.ne hG.len (R:=Qz p F r) h1
 rw [this]
 unfold OI WJ
 split
 ·rfl
 ·simp
theorem MW (t : Jx) : ∀ (Ls : List (List Dj)),(Ls.filter fun g=>decide (g ≠ [])).flatten = Ls.flatten ∧ ((Ls.filter fun g=>decide (g ≠ [])).map fun g=>(Qd t g).getD []).flatten = (Ls.map (WJ t)).flatten
 | []=>⟨rfl,rfl⟩
 | g :: Ls=>by
  obtain ⟨h1,h2⟩:=MW t Ls
  by_cases hg : g = []
  ·rw [List.filter_cons_of_neg (by simp [hg]),h1,h2,hg]
   simp [WJ]
  ·rw [List.filter_cons_of_pos (by simp [hg]),List.flatten_cons,h1,List.map_cons,List.flatten_cons,List.flatten_cons,h2,List.map_cons,List.flatten_cons]
   simp [WJ,hg]
def EP (k : ByteArray) (R : List Dp) : Nat:=((R.filter fun r=>decide (r.x_.Club = k)).map fun r=>QM r.points_).sum
theorem HX (k : ByteArray) (r : Dp) (R : List Dp) : EP k (r :: R) = (if r.x_.Club = k then QM r.points_ else 0) + EP k R:=by
 unfold EP
 by_cases h : r.x_.Club = k
 ·rw [List.filter_cons_of_pos (by simpa using h),if_pos h,List.map_cons,List.sum_cons]
 ·rw [List.filter_cons_of_neg (by simpa using h),if_neg h,Nat.zero_add]
theorem YO (k : ByteArray) (R S : List Dp) : EP k (R ++ S) = EP k R + EP k S:=by
 unfold EP
 rw [List.filter_append,List.map_append,List.sum_append]
theorem HY (j : List (ByteArray × Dk) → Option (List (ByteArray × Dk))) : ∀ (ys : List Dj) (i : Nat) (m : List (ByteArray × Dk)) (K : ByteArray → Prop),MF m K (fun _=>0) →
  ∃ m',Mv j ys i m = j m' ∧ MF m' (fun k=>K k ∨ (k ≠ An ∧ ∃ y ∈ ys,y.Club = k)) (fun _=>0)
 | [],i,m,K,h=>⟨m,rfl,h.congr (fun k=>⟨.inl,fun h=>h.elim id fun ⟨_,d,hd,_⟩=>absurd hd (by simp)⟩) fun _ _=>rfl⟩
 | y :: ys,i,m,K,h=>by
  rw [Mv]
  simp only [Oi]
  by_cases hc : y.Club = An
  ·rw [if_neg (by simp [hc])]
   obtain ⟨m',e,g⟩:=HY j ys (i + 1) m K h
   refine ⟨m',e,g.congr (fun k=>or_congr Iff.rfl ⟨fun ⟨a,d,hd,b⟩=>⟨a,d,List.mem_cons_of_mem _ hd,b⟩,fun ⟨a,d,hd,b⟩=>?_⟩) fun _ _=>rfl⟩
   rcases List.mem_cons.1 hd with rfl | hd
   ·exact absurd (b.symm.trans hc) a
   ·exact ⟨a,d,hd,b⟩
  ·rw [if_pos (by simp [hc]),show Jm = fr 0 from UB]
   have h1:=(h.put y.Club 0).congr (K':=fun z=>z = y.Club ∨ K z) (u':=fun _=>0) (fun _=>Iff.rfl) fun k _=>by split <;> rfl
   obtain ⟨m',e,g⟩:=HY j ys (i + 1) _ _ h1
   refine ⟨m',e,g.congr (fun k=>⟨fun hh=>?_,fun hh=>?_⟩) fun _ _=>rfl⟩
   ·rcases hh with (hh | hh) | ⟨a,d,hd,b⟩
    ·exact .inr ⟨by rw [hh]; exact hc,y,List.mem_cons_self,hh.symm⟩
    ·exact .inl hh
    ·exact .inr ⟨a,d,List.mem_cons_of_mem _ hd,b⟩
   ·rcases hh with hh | ⟨a,d,hd,b⟩
    ·exact .inl (.inr hh)
    ·rcases List.mem_cons.1 hd with rfl | hd
     ·exact .inl (.inl b.symm)
     ·exact .inr ⟨a,d,hd,b⟩
theorem addP_fr {u v : Nat} (hu : u ≤ 1000000000) (hv : v ≤ 1000000000) : BP (fr u) (fr v) = some (fr (u + v)):=by
 have:=UR hu hv
 unfold AQ at this
 exact this
theorem MX (j : List (ByteArray × Dk) → Option (List (ByteArray × Dk))) (K : ByteArray → Prop) : ∀ (R : List Dp) (i : Nat) (m : List (ByteArray × Dk)) (u : ByteArray → Nat) (B : Nat),MF m K u → (∀ r ∈ R,K r.x_.Club) → (∀ r ∈ R,∃ v,v ≤ 6000 ∧ r.points_ = fr v) → (∀ k,u k ≤ B) → B + 6000 * R.length ≤ 1000000 →
  ∃ m',Ll j R i m = j m' ∧ MF m' K (fun k=>u k + EP k R)
 | [],i,m,u,B,h,_,_,_,_=>⟨m,rfl,h.congr (fun _=>Iff.rfl) fun _ _=>rfl⟩
 | y :: R,i,m,u,B,h,h1,h2,h3,h4=>by
  simp only [List.length_cons] at h4
  obtain ⟨v,hv,e⟩:=h2 y List.mem_cons_self
  have hval : QM y.points_ = v:=by rw [e,JJ]
  have hK:=h1 y List.mem_cons_self
  have hu:=h3 y.x_.Club
  rw [Ll,h.vals _ hK,e,addP_fr (by omega) (by omega)]
  simp only [Option.bind_some]
  have h5:=(h.put y.x_.Club (u y.x_.Club + v)).congr (K':=K) (u':=fun z=>if z = y.x_.Club then u y.x_.Club + v else u z) (fun k=>⟨fun hh=>hh.elim (fun e=>by rw [e]; exact hK) id,.inr⟩) fun _ _=>rfl
  obtain ⟨m',e',g⟩:=MX j K R (i + 1) _ _ (B + 6000) h5 (fun z hz=>h1 z (List.mem_cons_of_mem _ hz)) (fun z hz=>h2 z (List.mem_cons_of_mem _ hz)) (fun k=>by
   have:=h3 k
   split <;> omega) (by omega)
  refine ⟨m',e',g.congr (fun _=>Iff.rfl) fun k _=>?_⟩
  rw [HX,hval]
  by_cases hk : k = y.x_.Club
  ·rw [if_pos hk,if_pos hk.symm,hk]; omega
  ·rw [if_neg hk,if_neg (fun e=>hk e.symm)]; omega
def gvT (e : ByteArray × Dk) : Dm:=Dm.mk e.1 e.2
def ltP (x y : Dm) : Bool:=decide (Qe x y < 0)
theorem WK (l : List Dm) (hl : l.length ≤ 12) : Iq l 0 (l.length : Int) = some (Mm ltP l):=by
 unfold Iq
 simp only [Oi]
 have hins : ∀ (k : List Dm → Option (List Dm)) (rp : List Dm) (x : Dm) (post : List Dm),((rp ++ x :: post).length : Int) = (l.length : Int) → (∀ y,y ∈ rp ∨ y = x ∨ y ∈ post → y ∈ (rp ++ x :: post)) →
   Ep 0 k (((rp.length : Int) - 0).toNat + 2) (rp.reverse ++ x :: post) (rp.length : Int) = k ((Um ltP x rp).reverse ++ post):=by
  intro k rp x post h1 _
  exact ID (fun x y k=>k (ltP x y)) ltP k (Ep 0 k) (fun _ _ _=>rfl) rp x post _ (by omega) (by simp at h1; omega) fun y _ k'=>rfl
 cases l with
 | nil=>rfl
 | cons x l =>
  have hw : W (0 + 1) = (([x] : List Dm).length : Int):=rfl
  rw [hw]
  exact AF ltP (fun x=>some x) (fun k x i=>Ep 0 k ((i - 0).toNat + 2) x i) (Fq ((x :: l).length : Int) 0 fun x=>some x) ((x :: l).length : Int) (fun _ _ _=>rfl)
   (fun k rp x post h1 h2=>hins k rp x post h1 h2) l [x] _ (by simp only [List.length_cons,List.length_nil]; omega) (by simp only [List.length_cons,List.length_nil]; omega) (by simp only [List.length_cons,List.length_nil] at hl ⊢; omega)
theorem YP (l : List Dm) (hl : l.length ≤ 12) : Ko l = some (Mm ltP l):=by
 unfold Ko
 obtain ⟨r,hr⟩:=Option.isSome_iff_exists.1 (TR ⟨l.length,by omega⟩)
 simp only at hr
 rw [hr]
 simp only [Option.bind_some]
 unfold Kr
 rw [show (4611686018427387904 : Nat) = 4611686018427387903 + 1 from rfl,Gy,Oj (by omega) (by omega),if_pos (decide_eq_true (by omega)),WK l hl]
 rfl
theorem QX (j : List Dm → Option (List Dm)) : ∀ (p : List (ByteArray × Dk)) (x : List Dm),x.length + p.length ≤ 1000 → Oe j p x = j (x ++ p.map gvT)
 | [],x,_=>by rw [Oe]; simp
 | y :: p,x,h=>by
  simp only [List.length_cons] at h
  rw [Oe,Gb (by unfold St; simp; omega),Option.bind_some,QX j p (x ++ [Dm.mk y.1 y.2]) (by simp; omega)]
  simp [gvT]
theorem YQ (m : List (ByteArray × Dk)) (hn : (m.map (·.1)).Nodup) (hl : m.length ≤ 12) : Yi m = some (Mm ltP (m.map gvT)):=by
 have hkeys : ∀ p : List (ByteArray × Dk),(p.map gvT).map (·.Key) = p.map (·.1):=fun p=>by rw [List.map_map]; rfl
 unfold Yi
 simp only [Jl]
 refine MY fun p hp=>?_
 have hpl : p.length = m.length:=hp.length_eq
 rw [QX _ p [] (by simp; omega),List.nil_append,YP _ (by rw [List.length_map]; omega),Option.bind_some]
 have hnd : ((p.map gvT).map (·.Key)).Nodup:=by rw [hkeys,(hp.map (·.1)).nodup_iff]; exact hn
 show some (Mm FQ (p.map gvT)) = some (Mm ltP (m.map gvT))
 rw [GO QO CA (p.map gvT) (Mm ltP (m.map gvT)) (GY hnd) (Xw CA _ (GY (by rw [hkeys]; exact hn))) fun x=>by
  rw [Qo,(hp.map gvT).mem_iff]]
theorem WL {t : Jx} {Gs : List (List Dj)} (ht : KN t) (h : LGd Gs) : ∃ R m,Nn t Gs.flatten = some R ∧ R.length ≤ 15 ∧ (∀ r ∈ R,Xn Gs.flatten r) ∧ MF m (fun k=>k ≠ An ∧ ∃ y ∈ Gs.flatten,y.Club = k) (fun k=>EP k R) ∧ Xc t Gs.flatten = some (Mm ltP (m.map gvT),0):=by
 obtain ⟨R,e,hl,hr⟩:=UG t ht.toTOk Gs h.one h.ne h.len
 obtain ⟨m1,e1,g1⟩:=HY (fun x1=>Ll (fun x4=>some x4) R 0 x1) Gs.flatten 0 [] (fun _=>False) ⟨by simp,fun k=>by simp,fun _ hk=>hk.elim⟩
 obtain ⟨m2,e2,g2⟩:=MX (fun x4=>some x4) _ R 0 m1 _ 0 g1 (fun r hr'=>.inr ⟨(hr r hr').2.1,r.x_,(hr r hr').1,rfl⟩) (fun r hr'=>(hr r hr').2.2) (fun _=>by omega) (by omega)
 have g3:=g2.congr (K':=fun k=>k ≠ An ∧ ∃ y ∈ Gs.flatten,y.Club = k) (u':=fun k=>EP k R) (fun k=>by simp) fun k _=>by simp
 have hml : m2.length ≤ 12:=by
  have:=DT (m2.map (·.1)) (Gs.flatten.map (·.Club)) g3.nd fun k hk=>by
   obtain ⟨_,y,hy,e⟩:=(g3.keys k).1 hk
   rw [← e]; exact List.mem_map_of_mem hy
  have h5:=DT (m2.map (·.1)) EX g3.nd fun k hk=>by
   obtain ⟨_,y,hy,e⟩:=(g3.keys k).1 hk
   rw [← e]; exact (h.row y hy).2.2.1
  rw [List.length_map] at h5
  have : EX.length ≤ 12:=by decide +kernel
  omega
 refine ⟨R,m2,e,hl,hr,g3,?_⟩
 unfold Xc
 rw [UM ht h]
 simp only [Option.bind_some,decide_true,Bool.not_true,Bool.false_eq_true,if_false]
 unfold Ys
 simp only [Jl,e,Option.bind_some]
 have e1' : Mv (fun x1=>Ll (fun x4=>some x4) R 0 x1) Gs.flatten 0 [] = Ll (fun x4=>some x4) R 0 m1:=e1
 rw [e1',e2]
 simp only [Option.bind_some]
 rw [YQ m2 g3.nd hml]
 rfl
theorem LD (C : List (ByteArray × ByteArray)) (M : List (ByteArray × Dk)) (r : Du) (k : ByteArray) (hk : k ≠ An) : ∀ (Z : List Ds) (R : List Dp),R.map (·.x_) = (Z.map (scS C r)).filter Zq → (∀ x ∈ R,ptS M ((r.Key ++ On) ++ x.x_.Who) = x.points_) → (∀ z ∈ Z,z.Rank = 0 → (Wp C M r z).Points = fr 0) → HW k (Z.map (Wp C M r)) = EP k R
 | [],R,h,_,_=>by
  have : R = []:=by simpa using h
  rw [this]; rfl
 | z :: Z,R,h,h1,h2=>by
  have h2' : ∀ y ∈ Z,y.Rank = 0 → (Wp C M r y).Points = fr 0:=fun y hy=>h2 y (List.mem_cons_of_mem _ hy)
  rw [List.map_cons,BH]
  by_cases hg : Zq (scS C r z) = true
  ·rw [List.map_cons,List.filter_cons_of_pos hg] at h
   cases R with
   | nil=>cases h
   | cons x R =>
    simp only [List.map_cons,List.cons.injEq] at h
    have hx:=h1 x List.mem_cons_self
    rw [HX,LD C M r k hk Z R h.2 (fun y hy=>h1 y (List.mem_cons_of_mem _ hy)) h2']
    have e1 : (Wp C M r z).Club = x.x_.Club:=by rw [h.1]; rfl
    have e2 : (Wp C M r z).Points = x.points_:=by rw [← hx,h.1]; rfl
    rw [e1,e2]
  ·rw [List.map_cons,List.filter_cons_of_neg hg] at h
   rw [LD C M r k hk Z R h h1 h2']
   unfold Zq at hg
   have hg : z.Rank = 0 ∨ (scS C r z).Club = An:=by
    simp only [Bool.not_eq_true',Bool.not_eq_false,Bool.or_eq_true,decide_eq_true_eq] at hg
    exact hg
   rcases hg with hg | hg
   ·rw [h2 z List.mem_cons_self hg,JJ]
    split <;> omega
   ·have e1 : (Wp C M r z).Club = An:=hg
    rw [if_neg (by rw [e1]; exact fun e=>hk e.symm)]
    omega
theorem WM {p : Jr} (hp : Vd p) {F : List Di} (h : FG F) {r : Du} (hr : r ∈ p.Races) (k : ByteArray) (hk : k ≠ An) : HW k (Wa p F r) = EP k (Qz p F r):=by
 have e:=OM hp h hr
 unfold Ql at e
 exact LD _ _ r k hk (Yl r.Key F) (Qz p F r) e (fun x hx=>pts_row hp h hr hx) fun z hz h0=>WI hp h hr (y:=Wp (Wo (Sp r.Key F) []) (ofS ((Qz p F r).map gvS) []) r z) (List.mem_map_of_mem hz) h0
def Zt (x y : Du) : Bool:=decide (Im x y < 0)
theorem JL (x y : Du) : Zt x y = decide (cB x.Key y.Key < 0):=by
 unfold Zt Im
 rw [PQ]
 by_cases h : cB x.Key y.Key < 0
 ·rw [if_pos (decide_eq_true h),decide_eq_true h]; rfl
 ·rw [if_neg (by simpa using h),decide_eq_false h]; rfl
theorem SM (l : List Du) (hl : l.length ≤ 12) : Hd l 0 (l.length : Int) = some (Mm Zt l):=by
 unfold Hd
 simp only [Oi]
 have hins : ∀ (k : List Du → Option (List Du)) (rp : List Du) (x : Du) (post : List Du),((rp ++ x :: post).length : Int) = (l.length : Int) → (∀ y,y ∈ rp ∨ y = x ∨ y ∈ post → y ∈ (rp ++ x :: post)) →
   Ee 0 k (((rp.length : Int) - 0).toNat + 2) (rp.reverse ++ x :: post) (rp.length : Int) = k ((Um Zt x rp).reverse ++ post):=by
  intro k rp x post h1 _
  exact ID (fun x y k=>k (Zt x y)) Zt k (Ee 0 k) (fun _ _ _=>rfl) rp x post _ (by omega) (by simp at h1; omega) fun y _ k'=>rfl
 cases l with
 | nil=>rfl
 | cons x l =>
  have hw : W (0 + 1) = (([x] : List Du).length : Int):=rfl
  rw [hw]
  exact AF Zt (fun x=>some x) (fun k x i=>Ee 0 k ((i - 0).toNat + 2) x i) (Ej ((x :: l).length : Int) 0 fun x=>some x) ((x :: l).length : Int) (fun _ _ _=>rfl)
   (fun k rp x post h1 h2=>hins k rp x post h1 h2) l [x] _ (by simp only [List.length_cons,List.length_nil]; omega) (by simp only [List.length_cons,List.length_nil]; omega) (by simp only [List.length_cons,List.length_nil] at hl ⊢; omega)
theorem WN (l : List Du) (hl : l.length ≤ 12) : Ie l = some (Mm Zt l):=by
 unfold Ie
 obtain ⟨r,hr⟩:=Option.isSome_iff_exists.1 (TR ⟨l.length,by omega⟩)
 simp only at hr
 rw [hr]
 simp only [Option.bind_some]
 unfold It
 rw [show (4611686018427387904 : Nat) = 4611686018427387903 + 1 from rfl,Fd,Oj (by omega) (by omega),if_pos (decide_eq_true (by omega)),SM l hl]
 rfl
theorem WO {p : Jr} (hp : Vd p) : (Mm Zt p.Races).Pairwise fun a b=>cB a.Key b.Key < 0:=by
 have htr : ∀ x y z : Du,Zt x y = true → Zt y z = true → Zt x z = true:=fun x y z h1 h2=>by
  rw [JL,decide_eq_true_eq] at *; exact Zl h1 h2
 refine (Xw htr p.Races ((List.pairwise_map.1 hp.keys).imp fun {a b} hne hb=>?_)).imp fun {a b} hab=>by rw [JL,decide_eq_true_eq] at hab; exact hab
 rw [JL,decide_eq_false_iff_not] at hb
 rw [JL,decide_eq_true_eq]
 have h0 : cB a.Key b.Key ≠ 0:=fun e=>hne (GL e)
 have:=GM a.Key b.Key
 omega
theorem YR (r : Du) (j : List Dj → Option Bool) : ∀ (ys : List Je) (i : Nat) (x : List Dj),x.length + ys.length ≤ 1000 → Hn r j ys i x = j (x ++ ys.map fun y=>Dj.mk r.Key y.Who y.Club y.Rank (decide (1 < r.Legs)))
 | [],i,x,_=>by simp [Hn]
 | y :: ys,i,x,h=>by
  simp only [List.length_cons] at h
  rw [Hn,Gb (by unfold St; exact decide_eq_true (by omega)),YR r j ys (i + 1) _ (by simp; omega)]
  simp
theorem FR (p : Jr) (F : List Di) (r : Du) : ((Wa p F r).map fun y=>Dj.mk r.Key y.Who y.Club y.Rank (decide (1 < r.Legs))) = Ql r F:=by
 unfold Wa Ql
 rw [List.map_map]
 rfl
theorem YS {p : Jr} (hp : Vd p) {l : List Di} (h : LG l) (a b : Int) (j : List Dj → Option Bool) : ∀ (ys : List Du) (i : Nat) (x : List Dj),(∀ r ∈ ys,r ∈ p.Races) → x.length + 4 * ys.length ≤ 1000 → Ho (p,a) (l,b) j ys i x = j (x ++ (ys.map fun r=>Ql r (Qk l 60)).flatten)
 | [],i,x,_,_=>by simp [Ho]
 | r :: ys,i,x,hr,hx=>by
  simp only [List.length_cons] at hx
  have hr0:=hr r List.mem_cons_self
  have hm : Jb 60 = true:=by decide
  have e2:=(Zp hp (h.facts 60) hr0).1
  rw [← SI hp h hr0 60 hm] at e2
  have hll:=MV p (h.facts 60) r
  have hrl : (Ql r (Qk l 60)).length ≤ 4:=by
   rw [← FR p,List.length_map]; exact hll
  rw [Ho,e2]
  simp only [Option.bind_some,decide_true,Bool.not_true,Bool.false_eq_true,if_false,Oi]
  rw [YR r _ _ 0 x (by omega),FR,YS hp h a b j ys (i + 1) _ (fun z hz=>hr z (List.mem_cons_of_mem _ hz)) (by simp; omega)]
  simp
theorem YT (y : Dm) : ∀ (l : List Dm) (i : Nat),(Ei y (-1) l i = -1 ∧ ∀ z ∈ l,z.Key ≠ y.Key) ∨ ∃ k : Nat,k < l.length ∧ Ei y (-1) l i = ((i + k : Nat) : Int) ∧ ∃ z ∈ l,l[k]? = some z ∧ z.Key = y.Key
 | [],_=>.inl ⟨rfl,fun _ h=>by cases h⟩
 | x :: l,i=>by
  rw [Ei]
  unfold Ny
  by_cases hx : x.Key = y.Key
  ·rw [if_pos (decide_eq_true hx)]
   exact .inr ⟨0,by simp,by simp,x,List.mem_cons_self,rfl,hx⟩
  ·rw [if_neg (by simpa using hx)]
   rcases YT y l (i + 1) with ⟨h1,h2⟩ | ⟨k,h1,h2,z,h3,h4,h5⟩
   ·refine .inl ⟨h1,fun z hz=>?_⟩
    rcases List.mem_cons.1 hz with rfl | hz
    ·exact hx
    ·exact h2 z hz
   ·exact .inr ⟨k + 1,by simp; omega,by rw [h2]; congr 1; omega,z,List.mem_cons_of_mem _ h3,by simpa using h4,h5⟩
theorem YU (r7 : List Dm × Int) (j : Option Bool) : ∀ (ys : List Dm) (i : Nat),(∀ y ∈ ys,(∀ z ∈ r7.1,z.Key = y.Key → z.Points = y.Points) ∧ ((∀ z ∈ r7.1,z.Key ≠ y.Key) → y.Points.Num = 0)) → Hv r7 j ys i = j
 | [],_,_=>rfl
 | y :: ys,i,h=>by
  obtain ⟨h1,h2⟩:=h y List.mem_cons_self
  have ih:=YU r7 j ys (i + 1) fun z hz=>h z (List.mem_cons_of_mem _ hz)
  rw [Hv]
  simp only [Oi]
  generalize he : Dx r7.1 y = q
  unfold Dx at he
  rw [Oi] at he
  rcases YT y r7.1 0 with ⟨e,hn⟩ | ⟨k,hk,e,z,hz,hz1,hz2⟩
  ·rw [e] at he
   subst he
   rw [h2 hn]
   simpa using ih
  ·rw [Nat.zero_add] at e
   have hnth : nth r7.1 (k : Int) = z:=by unfold nth; simp [List.getD,hz1]
   rw [e] at he
   subst he
   rw [decide_eq_true (by omega : (0 : Int) ≤ (k : Int)),if_pos rfl,Gb (Jz.2 (by omega)),hnth,h1 z hz hz2,decide_eq_false (by omega : ¬ ((k : Int) < 0))]
   simpa using ih
theorem UV (y : Dm) : ∀ (l : List Dm) (i : Nat),(∃ z ∈ l,z.Key = y.Key) → 0 ≤ En y (-1) l i
 | [],_,h=>by obtain ⟨s,hs,_⟩:=h; cases hs
 | x :: l,i,h=>by
  rw [En]
  unfold Nz
  by_cases hx : x.Key = y.Key
  ·rw [if_pos (decide_eq_true hx)]; omega
  ·rw [if_neg (by simpa using hx)]
   obtain ⟨s,hs,e⟩:=h
   rcases List.mem_cons.1 hs with rfl | hs
   ·exact absurd e hx
   ·exact UV y l (i + 1) ⟨s,hs,e⟩
theorem YV (r8 : List Dm × Int) (j : Option Bool) : ∀ (ys : List Dm) (i : Nat),(∀ y ∈ ys,∃ z ∈ r8.1,z.Key = y.Key) → Hw r8 j ys i = j
 | [],_,_=>rfl
 | y :: ys,i,h=>by
  have hc : Hr r8.1 y = true:=by
   unfold Hr Ja
   rw [Oi]
   exact decide_eq_true (UV y r8.1 0 (h y List.mem_cons_self))
  rw [Hw,hc,if_neg (by simp)]
  exact YV r8 j ys (i + 1) fun z hz=>h z (List.mem_cons_of_mem _ hz)
theorem h10_ok : Vp = some true:=by decide +kernel
theorem MF.mem {m : List (ByteArray × Dk)} {K : ByteArray → Prop} {u : ByteArray → Nat} (h : MF m K u) {e : ByteArray × Dk} (he : e ∈ m) : K e.1 ∧ e.2 = fr (u e.1):=by
 have hK:=(h.keys e.1).1 (List.mem_map_of_mem he)
 refine ⟨hK,?_⟩
 rw [← h.vals e.1 hK]
 have : ∀ (m : List (ByteArray × Dk)) (i : Nat),(m.map (·.1)).Nodup → e ∈ m → (Nh m e.1 i).map (·.2) = some e.2:=by
  intro m
  induction m with
  | nil=>intro _ _ h; cases h
  | cons a m ih =>
   intro i hn hm
   obtain ⟨q,v⟩:=a
   simp only [List.map_cons,List.nodup_cons] at hn
   rcases List.mem_cons.1 hm with rfl | hm
   ·simp [Nh]
   ·have : e.1 ≠ q:=fun e'=>hn.1 (by rw [← e']; exact List.mem_map_of_mem hm)
    simp only [Nh,this,if_false]
    exact ih (i + 1) hn.2 hm
 have h2:=this m 0 h.nd he
 unfold Ec Qm
 cases hf : Nh m e.1 0 with
 | none=>rw [hf] at h2; cases h2
 | some v=>rw [hf] at h2; simp only [Option.map_some,Option.some.injEq] at h2; simp [h2]
theorem plain_TopRanksBringPoints (l : List Int) (hl : l.length ≤ 9223372036854775807) : Pc l = some true:=by
 have hL : GP l:=by unfold GP; omega
 obtain ⟨p,a1,e1,p1,q1,hp⟩:=YE hL (a:=0) (by omega) (by omega)
 obtain ⟨n,a2,e2,p2,q2,n1,n2⟩:=BC hL (a:=a1) (by omega) (by omega) 4 16 (by omega) (by omega) (by omega)
 obtain ⟨x,a3,e3,p3,q3,x1,x2,x3⟩:=VZ hL n (by omega) (by omega) (a:=a2) (by omega) (by omega)
 have hG : LG x:=LG.of x2 x3 (by omega)
 have hF:=hG.facts 60
 have hm : Jb 60 = true:=by decide
 have hfew:=hp.few
 have hrs : ∀ r ∈ Mm Zt p.Races,r ∈ p.Races:=fun r hr=>(Qo _ _ _).1 hr
 have hrl : (Mm Zt p.Races).length = p.Races.length:=Xx _ _
 have hup:=WO hp
 -- the rows of all races
 generalize hGs : ((Mm Zt p.Races).map fun r=>Ql r (Qk x 60)).filter (fun g=>decide (g ≠ [])) = Gs
 have hfl:=MW p.Table ((Mm Zt p.Races).map fun r=>Ql r (Qk x 60))
 rw [hGs] at hfl
 have hflen : Gs.flatten.length ≤ 15:=by
  have h4 : ∀ (ys : List Du),((ys.map fun r=>Ql r (Qk x 60)).flatten).length ≤ 4 * ys.length:=by
   intro ys
   induction ys with
   | nil=>simp
   | cons r ys ih =>
    have:=GX hF r.Key
    have h1 : (Ql r (Qk x 60)).length ≤ 4:=by unfold Ql; rw [List.length_map]; exact this
    rw [List.map_cons,List.flatten_cons,List.length_append,List.length_cons]
    omega
  have:=h4 (Mm Zt p.Races)
  rw [hfl.1]
  omega
 have hLGd : LGd Gs:=by
  refine ⟨fun g hg=>?_,?_,hflen⟩
  ·rw [← hGs] at hg
   obtain ⟨h1,h2⟩:=List.mem_filter.1 hg
   obtain ⟨r,hr,rfl⟩:=List.mem_map.1 h1
   exact ⟨of_decide_eq_true h2,r.Key,_,(hp.races r (hrs r hr)).2,AG hF r⟩
  ·rw [← hGs]
   refine List.Pairwise.sublist List.filter_sublist ?_
   rw [List.pairwise_map]
   refine hup.imp fun {a b} hab u hu v hv=>?_
   rw [((AG hF a).row u hu).1,((AG hF b).row v hv).1]
   exact hab
 obtain ⟨R,m,r1,r2,r3,r4,r5⟩:=WL hp.table hLGd
 obtain ⟨w,w1,w2,w3⟩:=YK hp hF
 rw [← YL hp hG 60 hm] at w3
 -- the sums are the same
 have hR : R = ((Mm Zt p.Races).map fun r=>Qz p (Qk x 60) r).flatten:=by
  have hpt : ∀ r ∈ Mm Zt p.Races,WJ p.Table (Ql r (Qk x 60)) = Qz p (Qk x 60) r:=fun r hr=>(SL hp hF (hrs r hr)).symm
  refine (rowsE p.Table Gs hLGd.one hLGd.ne hflen r1).trans (hfl.2.trans ?_)
  generalize Mm Zt p.Races = rs at hpt
  rw [List.map_map]
  simp only [Function.comp_def]
  rw [List.map_congr_left hpt]
 have hsum : ∀ k,k ≠ An → LA p (Qk x 60) k p.Races = EP k R:=fun k hk=>by
  have e : LA p (Qk x 60) k p.Races = ((Mm Zt p.Races).map fun r=>HW k (Wa p (Qk x 60) r)).sum:=by
   unfold LA
   exact (((KE Zt p.Races).map _).sum_nat).symm
  have e2 : ∀ (ys : List Du),(∀ r ∈ ys,r ∈ p.Races) → (ys.map fun r=>HW k (Wa p (Qk x 60) r)).sum = EP k (ys.map fun r=>Qz p (Qk x 60) r).flatten:=by
   intro ys
   induction ys with
   | nil=>intro _; rfl
   | cons r ys ih =>
    intro hy
    rw [List.map_cons,List.sum_cons,List.map_cons,List.flatten_cons,YO,ih fun z hz=>hy z (List.mem_cons_of_mem _ hz),WM hp hF (hy r List.mem_cons_self) k hk]
  rw [e,hR,e2 _ hrs]
 have hclub : ∀ k,(∃ y ∈ Gs.flatten,y.Club = k) → ∃ r ∈ p.Races,∃ d ∈ CL r.Key (Qk x 60),d.Club = k:=fun k ⟨y,hy,e⟩=>by
  rw [hfl.1] at hy
  obtain ⟨g,hg,hy⟩:=List.mem_flatten.1 hy
  obtain ⟨r,hr,rfl⟩:=List.mem_map.1 hg
  rw [← FR p] at hy
  obtain ⟨z,hz,rfl⟩:=List.mem_map.1 hy
  obtain ⟨d,hd,_,hc,_⟩:=OK hp hF (hrs r hr) hz
  exact ⟨r,hrs r hr,d,(BZ hF hd).1,hc.symm.trans e⟩
 have hno : ∀ k,¬ (∃ y ∈ Gs.flatten,y.Club = k) → EP k R = 0:=fun k hn=>by
  have : ∀ (Q : List Dp),(∀ r ∈ Q,r.x_.Club ≠ k) → EP k Q = 0:=by
   intro Q
   induction Q with
   | nil=>intro _; rfl
   | cons r Q ih=>intro h; rw [HX,if_neg (h r List.mem_cons_self),ih fun z hz=>h z (List.mem_cons_of_mem _ hz)]
  exact this R fun r hr e=>hn ⟨r.x_,(r3 r hr).1,e⟩
 unfold Pc
 rw [e1]; simp only [Option.bind_some]
 rw [e2]; simp only [Option.bind_some]
 rw [e3]; simp only [Option.bind_some]
 unfold Uo
 rw [Gb (decide_eq_true (by simp; omega)),List.nil_append]
 simp only [Option.bind_some]
 rw [WN _ (by omega)]
 simp only [Option.bind_some,Oi]
 rw [YS hp hG a1 a3 _ _ 0 [] hrs (by simp; omega),List.nil_append,← hfl.1,r5]
 simp only [Option.bind_some]
 rw [w3]
 simp only [Option.bind_some,decide_true,Bool.not_true,Bool.or_self,Bool.false_eq_true,if_false]
 rw [YU,YV,h10_ok]
 ·rfl
 ·intro y hy
  simp only [Qo] at hy
  obtain ⟨e,he,rfl⟩:=List.mem_map.1 hy
  obtain ⟨⟨k1,k2⟩,_⟩:=r4.mem he
  have hk:=(w1.keys e.1).2 ⟨k1,hclub _ k2⟩
  obtain ⟨e',he',hk'⟩:=List.mem_map.1 hk
  exact ⟨Dm.mk e'.1 e'.2,(Qo _ _ _).2 (List.mem_map.2 ⟨e',he',rfl⟩),hk'⟩
 ·intro y hy
  simp only [Qo] at hy
  obtain ⟨e,he,rfl⟩:=List.mem_map.1 hy
  obtain ⟨⟨k1,k2⟩,k3⟩:=w1.mem he
  refine ⟨fun z hz hzk=>?_,fun hn=>?_⟩
  ·simp only [Qo] at hz
   obtain ⟨e',he',rfl⟩:=List.mem_map.1 hz
   obtain ⟨_,k6⟩:=r4.mem he'
   have hk : e'.1 = e.1:=hzk
   show e'.2 = e.2
   rw [k6,k3,hsum _ k1,hk]
  ·show e.2.Num = 0
   rw [k3,hsum _ k1,hno _ fun hh=>?_]
   ·decide +kernel
   ·have hk:=(r4.keys e.1).2 ⟨k1,hh⟩
    obtain ⟨e',he',hk'⟩:=List.mem_map.1 hk
    exact hn (Dm.mk e'.1 e'.2) ((Qo _ _ _).2 (List.mem_map.2 ⟨e',he',rfl⟩)) hk'
end Go.Proofs.YtfdmkmnjfhbliaaGreatDoor
