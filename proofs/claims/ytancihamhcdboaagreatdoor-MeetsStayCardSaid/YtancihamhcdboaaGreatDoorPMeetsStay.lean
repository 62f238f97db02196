/- The plain law of MeetsStay. No program stands here but its twins. -/
import Derived.Test.YtancihamhcdboaaGreatDoorPPlan
import Derived.Test.YtancihamhcdboaaGreatDoorPMeetSort
namespace Go.Proofs.YtancihamhcdboaaGreatDoor
open Go
def YE (g : List Dy) : Prop:=∀ a x b,g = a ++ x :: b → 0 < x.Rank → x.Rank = (a.length : Int) + 1 ∨ ∃ d y,a = d ++ [y] ∧ y.Rank = x.Rank
structure GGd (race : ByteArray) (rel : Bool) (g : List Dy) : Prop where
 len : g.length ≤ 5
 row : ∀ x ∈ g,x.Race = race ∧ x.Relay = rel ∧ x.Who ∈ HI ∧ x.Club ∈ IQ ∧ 0 ≤ x.Rank ∧ x.Rank ≤ 6
 asc : g.Pairwise fun x y=>EX x y = true
 who : g.Pairwise fun x y=>x.Who ≠ y.Who
 rank : YE g
structure LGd (Gs : List (List Dy)) : Prop where
 grp : ∀ g ∈ Gs,g ≠ [] ∧ ∃ race rel,race ∈ KT ∧ GGd race rel g
 diff : Gs.Pairwise fun g g'=>∀ x ∈ g,∀ y ∈ g',cB x.Race y.Race < 0
 len : Gs.flatten.length ≤ 15
theorem LGd.one {Gs : List (List Dy)} (h : LGd Gs) : ∀ g ∈ Gs,One g ∧ g.length ≤ 5:=fun g hg=>by
 obtain ⟨h1,race,rel,_,h2⟩:=h.grp g hg
 exact ⟨⟨h1,fun x hx y hy=>by rw [(h2.row x hx).1,(h2.row y hy).1]⟩,h2.len⟩
theorem LGd.ne {Gs : List (List Dy)} (h : LGd Gs) : Gs.Pairwise fun g g'=>∀ x ∈ g,∀ y ∈ g',x.Race ≠ y.Race :=
 h.diff.imp fun hd x hx y hy e=>by have:=hd x hx y hy; rw [e,Sz] at this; omega
theorem LGd.row {Gs : List (List Dy)} (h : LGd Gs) : ∀ x ∈ Gs.flatten,x.Race ∈ KT ∧ x.Who ∈ HI ∧ x.Club ∈ IQ ∧ 0 ≤ x.Rank ∧ x.Rank ≤ 6:=fun x hx=>by
 obtain ⟨g,hg,hx⟩:=List.mem_flatten.1 hx
 obtain ⟨_,race,rel,hr,h2⟩:=h.grp g hg
 obtain ⟨r1,_,r3,r4,r5⟩:=h2.row x hx
 exact ⟨by rw [r1]; exact hr,r3,r4,r5⟩
theorem LGd.asc {Gs : List (List Dy)} (h : LGd Gs) : Gs.flatten.Pairwise fun x y=>EX x y = true:=by
 rw [List.pairwise_flatten]
 refine ⟨fun g hg=>?_,h.diff.imp fun hd x hx y hy=>DV.2 (.inl (hd x hx y hy))⟩
 obtain ⟨_,race,rel,_,h2⟩:=h.grp g hg
 exact h2.asc
theorem LGd.who {Gs : List (List Dy)} (h : LGd Gs) : Gs.flatten.Pairwise fun x y=>¬ (x.Race = y.Race ∧ x.Who = y.Who):=by
 rw [List.pairwise_flatten]
 refine ⟨fun g hg=>?_,h.ne.imp fun hd x hx y hy e=>hd x hx y hy e.1⟩
 obtain ⟨_,race,rel,_,h2⟩:=h.grp g hg
 exact h2.who.imp fun hne e=>hne e.2
theorem keyP {s : ByteArray} (h : s ∈ KT ∨ s ∈ HI ∨ (s ∈ IQ ∧ s ≠ An)) : Gy s = some true:=by
 simp only [KT,HI,IQ,List.mem_cons,List.not_mem_nil,or_false] at h
 rcases h with (rfl | rfl | rfl) | (rfl | rfl | rfl | rfl | rfl) | ⟨rfl | rfl | rfl | rfl | rfl,hn⟩
 any_goals (decide +kernel)
 exact (hn rfl).elim
theorem QS {x y : Dy} (hx : 0 ≤ x.Rank ∧ x.Rank ≤ 6) (hy : 0 ≤ y.Rank ∧ y.Rank ≤ 6) (h : EX x y = true) : Tb x y < 0:=by
 have hc : Hw x.Race y.Race = cB x.Race y.Race:=rfl
 have hw : Hw x.Who y.Who = cB x.Who y.Who:=rfl
 have hor : ∀ a b c : Int,Uw [a,b,c] = if a ≠ 0 then a else if b ≠ 0 then b else c:=fun a b c=>by
  unfold Uw
  simp only [Kt]
  rw [Nh,Nh,Nh,Nh]
  by_cases h1 : a = 0
  ·by_cases h2 : b = 0
   ·by_cases h3 : c = 0
    ·simp [h1,h2,h3]
    ·simp [h1,h2,h3]
   ·simp [h1,h2]
  ·simp [h1]
 have hk : Md x.Rank y.Rank = kR x - kR y:=by
  have k1:=@YA x ⟨hx.1,by omega⟩
  have k2:=@YA y ⟨hy.1,by omega⟩
  unfold Md
  simp only [Kt]
  have e : kR x - kR y = W (kR x - kR y):=(Ox (by omega) (by omega)).symm
  rw [e]
  unfold kR
  by_cases a : x.Rank = 0
  ·by_cases b : y.Rank = 0
   ·simp [a,b]
   ·simp [a,b]
  ·by_cases b : y.Rank = 0
   ·simp [a,b]
   ·simp [a,b]
 unfold Tb
 rw [hc,hw,hk,hor]
 rw [DV] at h
 rcases h with h | ⟨e,h⟩
 ·rw [if_pos (by omega)]; exact h
 ·rw [e,Sz,if_neg (by simp)]
  rcases h with h | ⟨k,h⟩
  ·rw [if_pos (by omega)]; omega
  ·rw [if_neg (by omega)]; exact h
theorem UK (j : List (Fv × Bool) → Option Int) (l : List Dy) (hw : l.Pairwise fun x y=>¬ (x.Race = y.Race ∧ x.Who = y.Who)) : ∀ (ys dn : List Dy) (m : List (Fv × Bool)),l = dn ++ ys → (∀ e,El m e false = true → ∃ x ∈ dn,e = Fv.mk x.Race x.Who) →
  ∃ m',Lx j ys dn.length m = j m'
 | [],dn,m,_,_=>⟨m,rfl⟩
 | y :: ys,dn,m,h1,h2=>by
  have hno : El m (Fv.mk y.Race y.Who) false = false:=by
   cases hm : El m (Fv.mk y.Race y.Who) false with
   | false=>rfl
   | true =>
    obtain ⟨x,hx,e⟩:=h2 _ hm
    rw [h1,List.pairwise_append] at hw
    injection e with e1 e2
    exact (hw.2.2 x hx y List.mem_cons_self ⟨e1.symm,e2.symm⟩).elim
  rw [Lx,hno,if_neg (by simp)]
  obtain ⟨m',e⟩:=UK j l hw ys (dn ++ [y]) (Gw m (Fv.mk y.Race y.Who) true) (by rw [h1]; simp) (fun e he=>by
   rw [Yc] at he
   split at he
   ·rename_i hk; exact ⟨y,by simp,hk⟩
   ·obtain ⟨x,hx,e'⟩:=h2 e he; exact ⟨x,by simp [hx],e'⟩)
  rw [List.length_append,List.length_singleton] at e
  exact ⟨m',e⟩
theorem UL (g : List Dy) (g0 : Dy) (hg0 : nth g 0 = g0) (hin : inB 0 g.length = true) : ∀ (ys : List Dy) (i : Nat),(∀ y ∈ ys,y.Relay = g0.Relay) → Gb g (some (-1)) ys i = some (-1)
 | [],_,_=>rfl
 | y :: ys,i,h=>by
  rw [Gb]
  unfold Tl
  rw [Gn hin,hg0,h y List.mem_cons_self]
  simp only [decide_true,Bool.not_true,Option.bind_some,Bool.false_eq_true,if_false]
  exact UL g g0 hg0 hin ys (i + 1) fun z hz=>h z (List.mem_cons_of_mem _ hz)
theorem QT (j : Option Int) : ∀ (Gs : List (List Dy)) (i : Nat),(∀ g ∈ Gs,g ≠ [] ∧ ∃ race rel,race ∈ KT ∧ GGd race rel g) → Kx j Gs i = j
 | [],_,_=>rfl
 | g :: Gs,i,h=>by
  obtain ⟨h1,race,rel,_,h2⟩:=h g List.mem_cons_self
  rw [Kx]
  unfold Jv Kk
  simp only [Kt]
  have hp:=List.length_pos_iff.2 h1
  have hin : inB 0 g.length = true:=Ju.2 (by omega)
  have hm : nth g 0 ∈ g:=List.mem_of_getElem? (Eh hin).1
  rw [UL g (nth g 0) rfl hin g 0 fun y hy=>by rw [(h2.row y hy).2.1,(h2.row _ hm).2.1]]
  simp only [Option.bind_some]
  rw [if_neg (by simp)]
  exact QT j Gs (i + 1) fun g' h'=>h g' (List.mem_cons_of_mem _ h')
theorem QU (g : List Dy) (hr : YE g) (hl : g.length ≤ 5) (j : Option Int) : ∀ (ys dn : List Dy),g = dn ++ ys → Ly g j ys dn.length = j
 | [],_,_=>rfl
 | y :: ys,dn,h=>by
  have hdl : dn.length ≤ 5:=by rw [h] at hl; simp at hl; omega
  have ih:=QU g hr hl j ys (dn ++ [y]) (by rw [h]; simp)
  rw [List.length_append,List.length_singleton] at ih
  rw [Ly]
  simp only [Kt]
  rw [Ox (by omega) (by omega)]
  by_cases hc : ((decide (0 < y.Rank)) && (!decide (y.Rank = ((dn.length : Int) + 1)))) = true
  ·rw [if_pos hc]
   simp only [Bool.and_eq_true,decide_eq_true_eq,Bool.not_eq_true',decide_eq_false_iff_not] at hc
   rcases hr dn y ys h hc.1 with h1 | ⟨d,p,e,h1⟩
   ·exact (hc.2 h1).elim
   ·subst e
    have hlen : ((d ++ [p]).length : Int) = (d.length : Int) + 1:=by simp
    have hn : nth g (d.length : Int) = p:=by
     have : g = d ++ p :: (y :: ys):=by rw [h]; simp
     rw [this]; exact Xh d p (y :: ys) rfl
    have hin : inB (d.length : Int) g.length = true:=Ju.2 (by rw [h]; simp; omega)
    have hz : decide (((d ++ [p]).length : Int) = 0) = false:=decide_eq_false (by omega)
    rw [hz,if_neg (by simp),hlen,show (d.length : Int) + 1 - 1 = (d.length : Int) by omega,Ox (by omega) (by omega),Gn hin,hn,h1]
    simp only [decide_true,Bool.not_true,Bool.or_self,Bool.and_false,Bool.false_eq_true,if_false]
    exact ih
  ·rw [if_neg hc]
   simp only [Bool.not_eq_true] at hc
   rw [if_neg (by rw [hc]; simp)]
   exact ih
theorem QV (j : Option Int) : ∀ (Gs : List (List Dy)) (i : Nat),(∀ g ∈ Gs,g ≠ [] ∧ ∃ race rel,race ∈ KT ∧ GGd race rel g) → Kf j Gs i = j
 | [],_,_=>rfl
 | g :: Gs,i,h=>by
  obtain ⟨h1,race,rel,_,h2⟩:=h g List.mem_cons_self
  rw [Kf]
  simp only [Kt]
  have:=QU g h2.rank h2.len (Kf j Gs (i + 1)) g [] rfl
  rw [List.length_nil] at this
  rw [this]
  exact QV j Gs (i + 1) fun g' h'=>h g' (List.mem_cons_of_mem _ h')
theorem QW (j : Option Int) : ∀ (Gs : List (List Dy)) (i : Nat),(∀ g ∈ Gs,g.length ≤ 5) → Ky j Gs i = j
 | [],_,_=>rfl
 | g :: Gs,i,h=>by
  have hl:=h g List.mem_cons_self
  rw [Ky]
  simp only [Kt]
  rw [Mw,if_neg (by simp; omega)]
  exact QW j Gs (i + 1) fun g' h'=>h g' (List.mem_cons_of_mem _ h')
theorem QX {Gs : List (List Dy)} (h : LGd Gs) : Rz Gs.flatten = some 0:=by
 unfold Rz
 simp only [Kt]
 have hlen:=h.len
 obtain ⟨m',e⟩:=UK (fun _=>Option.bind (Tk Gs.flatten) (fun r1=>Kx (Kf (Ky (some 0) r1 0) r1 0) r1 0)) Gs.flatten h.who Gs.flatten [] [] rfl (fun e he=>by simp [El,Pi,Od] at he)
 rw [List.length_nil] at e
 rw [e,QM Gs (fun g hg=>(h.one g hg).1) h.ne (by omega),Option.bind_some,QT _ Gs 0 h.grp,QV _ Gs 0 h.grp,QW _ Gs 0 fun g hg=>(h.one g hg).2]
theorem IS (l : List Dy) (hl : l.length ≤ 15) (hr : ∀ x ∈ l,x.Race ∈ KT ∧ x.Who ∈ HI ∧ x.Club ∈ IQ ∧ 0 ≤ x.Rank ∧ x.Rank ≤ 6) (ha : l.Pairwise fun x y=>EX x y = true) (j : Option Int) : ∀ (ys dn : List Dy),l = dn ++ ys → Kd l j ys dn.length = j
 | [],_,_=>rfl
 | y :: ys,dn,h=>by
  have ih:=IS l hl hr ha j ys (dn ++ [y]) (by rw [h]; simp)
  rw [List.length_append,List.length_singleton] at ih
  obtain ⟨r1,r2,r3,r4⟩:=hr y (by rw [h]; simp)
  have hdl : dn.length ≤ 15:=by rw [h] at hl; simp at hl; omega
  have k1:=keyP (.inl r1)
  have k2:=keyP (.inr (.inl r2))
  have hw : Ed y.Rank 0 300 = true:=by unfold Ed; simp; omega
  rw [Kd,k1]
  simp only [Kt,Option.bind_some,Bool.not_true,Bool.false_eq_true,if_false,k2,Bool.or_self,hw,Bool.false_or]
  have hclub : ∀ Z : Option Int,(if (!decide (y.Club = An)) = true then Option.bind (Gy y.Club) (fun r3=>if ((!decide (y.Club = An)) && (!r3)) = true then some 5 else Z) else if ((!decide (y.Club = An)) && true) = true then some 5 else Z) = Z:=by
   intro Z
   by_cases hc : y.Club = An
   ·simp [hc]
   ·rw [if_pos (by simp [hc]),keyP (.inr (.inr ⟨r3,hc⟩)),Option.bind_some,if_neg (by simp)]
  refine (hclub _).trans ?_
  rcases List.eq_nil_or_concat dn with rfl | ⟨d,x,rfl⟩
  ·rw [if_neg (by simp)]; simpa using ih
  ·simp only [List.concat_eq_append] at *
   have hlen : ((d ++ [x]).length : Int) = (d.length : Int) + 1:=by simp
   have hn : nth l (d.length : Int) = x:=by
    have : l = d ++ x :: (y :: ys):=by rw [h]; simp
    rw [this]; exact Xh d x (y :: ys) rfl
   have hin : inB (d.length : Int) l.length = true:=Ju.2 (by rw [h]; simp; omega)
   have hlt : EX x y = true:=by
    rw [h,List.pairwise_append] at ha
    exact ha.2.2 x (by simp) y (by simp)
   have hneg:=QS (hr x (by rw [h]; simp)).2.2.2 r4 hlt
   rw [if_pos (decide_eq_true (by omega)),hlen,show (d.length : Int) + 1 - 1 = (d.length : Int) by omega,Ox (by omega) (by omega),Gn hin,hn,if_neg (by simp; omega)]
   exact ih
theorem VY {Gs : List (List Dy)} (h : LGd Gs) : Rp Gs.flatten = some 0:=by
 have hl:=h.len
 unfold Rp
 rw [if_neg (by simp only [decide_eq_true_eq]; omega)]
 simp only [Kt]
 have:=IS Gs.flatten hl h.row h.asc (Option.bind (Rz Gs.flatten) (fun r4=>some r4)) Gs.flatten [] rfl
 rw [List.length_nil] at this
 rw [this,QX h]; rfl
theorem both_ok {t : Mz} {Gs : List (List Dy)} (ht : MW t) (h : LGd Gs) : Tc t Gs.flatten = some 0:=by
 unfold Tc
 rw [QO ht,VY h]; rfl
end Go.Proofs.YtancihamhcdboaaGreatDoor
namespace Go.Proofs.YtancihamhcdboaaGreatDoor
open Go
theorem OM : ∀ (l : List Eb) (i : Nat) (pt pr : Int) (z : Eb),z ∈ rkF i pt pr l → ∃ x ∈ l,z.Who = x.Who ∧ z.Time = x.Time ∧ z.Fault = x.Fault
 | [],_,_,_,_,h=>by cases h
 | x :: xs,i,pt,pr,z,h=>by
  rw [rkF] at h
  rcases List.mem_cons.1 h with rfl | h
  ·exact ⟨x,List.mem_cons_self,rfl,rfl,rfl⟩
  ·obtain ⟨y,hy,e⟩:=OM xs _ _ _ z h
   exact ⟨y,List.mem_cons_of_mem _ hy,e⟩
theorem UM : ∀ (l : List Eb) (i : Nat) (pt pr : Int),(rkF i pt pr l).map (·.Who) = l.map (·.Who)
 | [],_,_,_=>rfl
 | x :: xs,i,pt,pr=>by simp only [rkF,List.map_cons,UM xs]
def Rk2 (a b : Eb) : Prop:=a.Time ≤ b.Time ∧ a.Rank ≤ b.Rank ∧ (a.Rank = b.Rank ↔ a.Time = b.Time) ∧ (a.Time = b.Time → cB a.Who b.Who < 0)
theorem SI : ∀ (l : List Eb) (i : Nat) (pt pr : Int),l.Pairwise (fun a b=>FV a b = true) → (i = 0 ∨ (1 ≤ pr ∧ pr ≤ (i : Int) ∧ ∀ x ∈ l,pt ≤ x.Time)) →
  (∀ z ∈ rkF i pt pr l,1 ≤ z.Rank ∧ z.Rank ≤ (i : Int) + l.length ∧ (i = 0 ∨ (pt ≤ z.Time ∧ pr ≤ z.Rank ∧ (z.Rank = pr ↔ z.Time = pt)))) ∧ (rkF i pt pr l).Pairwise Rk2
 | [],_,_,_,_,_=>⟨fun z h=>absurd h (by simp [rkF]),by simp [rkF]⟩
 | x :: xs,i,pt,pr,hp,hi=>by
  rw [List.pairwise_cons] at hp
  have hle : ∀ y ∈ xs,x.Time ≤ y.Time ∧ (x.Time = y.Time → cB x.Who y.Who < 0):=fun y hy=>by
   have:=HE.1 (hp.1 y hy)
   omega
  have hx : i = 0 ∨ pt ≤ x.Time:=hi.imp id fun h=>h.2.2 x List.mem_cons_self
  generalize hr : (if decide (0 < (i : Int)) && decide (x.Time = pt) then pr else (i : Int) + 1) = r
  have hr' : rkF i pt pr (x :: xs) = Eb.mk x.Who r x.Time x.Fault :: rkF (i + 1) x.Time r xs:=by rw [rkF]; simp only [hr]
  have hrr : (0 < i ∧ x.Time = pt ∧ r = pr) ∨ (r = (i : Int) + 1 ∧ (i = 0 ∨ x.Time ≠ pt)):=by
   rw [← hr]
   by_cases h : 0 < i
   ·by_cases h2 : x.Time = pt
    ·left
     rw [if_pos (by simp [h,h2])]
     exact ⟨h,h2,rfl⟩
    ·right
     rw [if_neg (by simp [h2])]
     exact ⟨rfl,.inr h2⟩
   ·right
    rw [if_neg (by simp; omega)]
    exact ⟨rfl,.inl (by omega)⟩
  have hr1 : 1 ≤ r ∧ r ≤ (i : Int) + 1:=by
   rcases hrr with ⟨h1,_,h3⟩ | ⟨h1,_⟩
   ·rcases hi with h | ⟨h4,h5,_⟩ <;> omega
   ·omega
  obtain ⟨A,B⟩:=SI xs (i + 1) x.Time r hp.2 (.inr ⟨hr1.1,by push_cast; omega,fun y hy=>(hle y hy).1⟩)
  rw [hr']
  refine ⟨fun z hz=>?_,List.pairwise_cons.2 ⟨fun z hz=>?_,B⟩⟩
  ·rcases List.mem_cons.1 hz with rfl | hz
   ·refine ⟨hr1.1,by simp only [List.length_cons]; push_cast; omega,?_⟩
    rcases hi with h | ⟨h4,h5,h6⟩
    ·exact .inl h
    ·right
     have:=h6 x List.mem_cons_self
     simp only
     rcases hrr with ⟨h1,h2,h3⟩ | ⟨h1,h2⟩ <;> omega
   ·obtain ⟨a1,a2,a3⟩:=A z hz
    refine ⟨a1,by simp only [List.length_cons]; push_cast at a2 ⊢; omega,?_⟩
    rcases hi with h | ⟨h4,h5,h6⟩
    ·exact .inl h
    ·right
     have:=h6 x List.mem_cons_self
     rcases a3 with a3 | ⟨a3,a4,a5⟩
     ·omega
     ·rcases hrr with ⟨h1,h2,h3⟩ | ⟨h1,h2⟩ <;> omega
  ·obtain ⟨a1,a2,a3⟩:=A z hz
   obtain ⟨y,hy,y1,y2,_⟩:=OM xs _ _ _ z hz
   obtain ⟨l1,l2⟩:=hle y hy
   rcases a3 with a3 | ⟨a3,a4,a5⟩
   ·omega
   ·refine ⟨by simp only; omega,by simp only; omega,by simp only; omega,?_⟩
    simp only
    rw [y1]
    intro e
    exact l2 (by omega)
theorem UN : ∀ (l : List Eb) (i : Nat) (pt pr : Int) (a : List Eb) (x : Eb) (b : List Eb),rkF i pt pr l = a ++ x :: b → x.Rank = (i : Int) + a.length + 1 ∨ (a = [] ∧ x.Rank = pr ∧ 0 < i) ∨ ∃ d y,a = d ++ [y] ∧ y.Rank = x.Rank
 | [],i,pt,pr,a,x,b,h=>by simp [rkF] at h
 | z :: zs,i,pt,pr,a,x,b,h=>by
  rw [rkF] at h
  cases a with
  | nil =>
   simp only [List.nil_append,List.cons.injEq] at h
   rw [← h.1]
   show (if (decide (0 < (i : Int)) && decide (z.Time = pt)) = true then pr else (i : Int) + 1) = _ ∨ (_ ∧ (if (decide (0 < (i : Int)) && decide (z.Time = pt)) = true then pr else (i : Int) + 1) = pr ∧ _) ∨ ∃ d y,_ ∧ Eb.Rank y = (if (decide (0 < (i : Int)) && decide (z.Time = pt)) = true then pr else (i : Int) + 1)
   by_cases hc : (decide (0 < (i : Int)) && decide (z.Time = pt)) = true
   ·rw [if_pos hc]
    refine .inr (.inl ⟨rfl,rfl,?_⟩)
    simp at hc
    omega
   ·rw [if_neg hc]
    exact .inl (by simp)
  | cons a0 a =>
   simp only [List.cons_append,List.cons.injEq] at h
   rcases UN zs (i + 1) _ _ a x b h.2 with e | ⟨e1,e2,_⟩ | ⟨d,y,e1,e2⟩
   ·refine .inl ?_
    simp only [List.length_cons]
    push_cast at e ⊢
    omega
   ·refine .inr (.inr ⟨[],a0,by rw [e1]; rfl,?_⟩)
    rw [← h.1,e2]
   ·exact .inr (.inr ⟨a0 :: d,y,by rw [e1]; rfl,e2⟩)
def swS (race : ByteArray) (m : List (ByteArray × Dx)) (y : Dx) : List (ByteArray × Dx):=if decide (y.Race = race) && decide (y.Kind = 3) then Gw m y.Who y else m
def swM (race : ByteArray) (l : List Dx) : List (ByteArray × Dx):=l.foldl (swS race) []
theorem SJ (race : ByteArray) : ∀ (ys : List Dx) (i : Nat) (m : List (ByteArray × Dx)),Pl race (fun x=>x) ys i m = ys.foldl (swS race) m
 | [],_,m=>rfl
 | y :: ys,i,m=>by
  rw [Pl]
  simp only [Og,List.foldl_cons]
  unfold swS
  cases hc : (decide (y.Race = race) && decide (y.Kind = 3)) with
  | true=>rw [if_pos rfl,if_pos rfl]; exact SJ race ys (i + 1) _
  | false=>rw [if_neg (by simp),if_neg (by simp)]; exact SJ race ys (i + 1) _
theorem swum_is (p : Kq) (l : List Dx) (race : ByteArray) : Ii p l race = swM race l:=by
 unfold Ii
 rw [Og]
 exact SJ race l 0 []
theorem swM_get {race : ByteArray} {l : List Dx} {w : ByteArray} {y : Dx} (h : Pi (swM race l) w = some y) : y ∈ l ∧ y.Kind = 3 ∧ y.Race = race ∧ y.Who = w:=by
 have key : ∀ (ys : List Dx) (m : List (ByteArray × Dx)),(∀ z ∈ ys,z ∈ l) → (∀ w y,Pi m w = some y → y ∈ l ∧ y.Kind = 3 ∧ y.Race = race ∧ y.Who = w) → ∀ w y,Pi (ys.foldl (swS race) m) w = some y → y ∈ l ∧ y.Kind = 3 ∧ y.Race = race ∧ y.Who = w:=by
  intro ys
  induction ys with
  | nil=>intro m _ h; exact h
  | cons z ys ih =>
   intro m hz hm
   rw [List.foldl_cons]
   refine ih _ (fun u hu=>hz u (List.mem_cons_of_mem _ hu)) fun w y hy=>?_
   unfold swS at hy
   split at hy
   ·rename_i hc
    simp only [Bool.and_eq_true,decide_eq_true_eq] at hc
    have e : Pi (Gw m z.Who z) w = if w = z.Who then some z else Pi m w:=DR z.Who w z m 0
    rw [e] at hy
    split at hy
    ·rename_i hw
     obtain rfl:=Option.some.inj hy
     exact ⟨hz z List.mem_cons_self,hc.2,hc.1,hw.symm⟩
    ·exact hm w y hy
   ·exact hm w y hy
 exact key l [] (fun _ h=>h) (fun w y h=>by simp [Pi,Od] at h) w y h
structure FG (F : List Dx) : Prop where
 ok : ∀ d ∈ F,DG d ∧ d.Who ∈ HJ ∧ d.Club ∈ Zm
 len : F.length ≤ 40
theorem KV {α : Type} [DecidableEq α] : ∀ (l l' : List α),l.Nodup → (∀ x ∈ l,x ∈ l') → l.length ≤ l'.length
 | [],_,_,_=>Nat.zero_le _
 | x :: l,l',h,hm=>by
  rw [List.nodup_cons] at h
  have hx:=hm x List.mem_cons_self
  have:=KV l (l'.erase x) h.2 fun y hy=>(List.mem_erase_of_ne (fun e=>h.1 (by rw [← e]; exact hy))).2 (hm y (List.mem_cons_of_mem _ hy))
  rw [List.length_erase_of_mem hx] at this
  have:=List.length_pos_of_mem hx
  simp only [List.length_cons]
  omega
theorem KW {F : List Dx} (h : FG F) {d : Dx} (hd : d ∈ F) (hk : d.Kind ≠ 4) : d.Who ∈ [Yg,CS,CT,CU] ∧ Gy d.Who = some true ∧ Gy d.Race = some true:=by
 obtain ⟨g,n,_⟩:=h.ok d hd
 obtain ⟨h1,h2⟩:=g.who hk
 have e0 : Gy An = some false:=by decide +kernel
 refine ⟨?_,h1,h2⟩
 unfold HJ at n
 simp only [List.mem_cons,List.not_mem_nil,or_false] at n ⊢
 rcases n with n | n | n | n | n
 ·exact .inl n
 ·exact .inr (.inl n)
 ·exact .inr (.inr (.inl n))
 ·exact .inr (.inr (.inr n))
 ·rw [n,e0] at h1; cases h1
theorem UO {F : List Dx} (h : FG F) {d : Dx} (hd : d ∈ F) (hk : d.Kind = 1) : d.Club ∈ [Uv,FA,An]:=by
 obtain ⟨g,_,n⟩:=h.ok d hd
 have eA : Gy k_A = some false:=by decide +kernel
 have hAe : k_A ≠ An:=by decide +kernel
 unfold Zm at n
 simp only [List.mem_cons,List.not_mem_nil,or_false] at n ⊢
 rcases n with h1 | h1 | h1 | h1
 ·exact .inl h1
 ·exact .inr (.inl h1)
 ·exact .inr (.inr h1)
 ·rcases g.club hk with h2 | h2
  ·exact absurd (h1.symm.trans h2) hAe
  ·rw [h1,eA] at h2; cases h2
theorem JO {F : List Dx} (h : FG F) (race : ByteArray) : (LT race F).length ≤ 4:=by
 have ho:=UB race F
 have:=KV ((LT race F).map (·.1)) [Yg,CS,CT,CU] ho.nd fun x hx=>by
  obtain ⟨p,hp,rfl⟩:=List.mem_map.1 hx
  obtain ⟨e1,_,e3,e4⟩:=ho.is p hp
  rw [e1]
  exact (KW h e4 (by omega)).1
 rw [List.length_map] at this
 exact this
theorem SK {F : List Dx} (h : FG F) (p : Kq) (race : ByteArray) : Qx p F race = some (DU race F):=SG p F race (by have:=JO h race; omega)
def D0 : Dx:=Dx.mk An 0 0 0 An An An 0 0 An 0
def SL (race : ByteArray) (F : List Dx) (d : Dx) : Bool:=(Pi (swM race F) d.Who).isSome
def svS (race : ByteArray) (F : List Dx) (d : Dx) : Dx:=El (swM race F) d.Who D0
def Uc (race : ByteArray) (F : List Dx) : List Dx:=(DU race F).filter (SL race F)
def Px (race : ByteArray) (F : List Dx) (H : List Dx) : List Kg:=H.map fun d=>Kg.mk d.Who (svS race F d).Time
def BB (race : ByteArray) (F : List Dx) (H : List Dx) : List Iw:=(H.filter fun d=>decide (0 < (svS race F d).Fault)).map fun d=>Iw.mk d.Who (svS race F d).Fault []
def Yu (H : List Dx) (m : List (ByteArray × ByteArray)) : List (ByteArray × ByteArray):=H.foldl (fun m d=>Gw m d.Who d.Club) m
theorem EI (p : Kq) (F : List Dx) (race : ByteArray) (j : List Iw → List Kg → List (ByteArray × ByteArray) → Option (List Eb × List (ByteArray × ByteArray) × Int)) : ∀ (ys : List Dx) (i : Nat) (v : List Iw) (q : List Kg) (c : List (ByteArray × ByteArray)),v.length + ys.length ≤ 1000 → q.length + ys.length ≤ 1000 →
  Nb p F race j ys i v q c = j (v ++ BB race F (ys.filter (SL race F))) (q ++ Px race F (ys.filter (SL race F))) (Yu (ys.filter (SL race F)) c)
 | [],i,v,q,c,_,_=>by simp [Nb,BB,Px,Yu]
 | y :: ys,i,v,q,c,h1,h2=>by
  simp only [List.length_cons] at h1 h2
  rw [Nb]
  simp only [Og,swum_is]
  have hh : SL race F y = (Pi (swM race F) y.Who).isSome:=rfl
  have hs : El (swM race F) y.Who (Dx.mk An 0 0 0 An An An 0 0 An 0) = svS race F y:=rfl
  rw [hs]
  cases hc : (Pi (swM race F) y.Who).isSome with
  | false =>
   rw [if_pos (by simp),List.filter_cons_of_neg (by rw [hh,hc]; simp)]
   exact EI p F race j ys (i + 1) v q c (by omega) (by omega)
  | true =>
   rw [if_neg (by simp),Gn (by unfold Sq; exact decide_eq_true (by omega)),List.filter_cons_of_pos (by rw [hh,hc])]
   by_cases hf : 0 < (svS race F y).Fault
   ·rw [if_pos (decide_eq_true hf),Gn (by unfold Sq; exact decide_eq_true (by omega)),EI p F race j ys (i + 1) _ _ _ (by simp; omega) (by simp; omega)]
    unfold BB Px Yu
    rw [List.filter_cons_of_pos (by simpa using hf)]
    simp
   ·rw [if_neg (by simpa using hf),EI p F race j ys (i + 1) v _ _ (by omega) (by simp; omega)]
    unfold BB Px Yu
    rw [List.filter_cons_of_neg (by simpa using hf)]
    simp
theorem EJ {F : List Dx} (h : FG F) {race : ByteArray} {d : Dx} (hd : d ∈ Uc race F) : d ∈ DU race F ∧ (svS race F d ∈ F ∧ (svS race F d).Kind = 3 ∧ (svS race F d).Race = race ∧ (svS race F d).Who = d.Who) ∧ (0 ≤ (svS race F d).Time ∧ (svS race F d).Time ≤ 360000) ∧ (0 ≤ (svS race F d).Fault ∧ (svS race F d).Fault ≤ 8):=by
 obtain ⟨h1,h2⟩:=List.mem_filter.1 hd
 unfold SL at h2
 obtain ⟨y,hy⟩:=Option.isSome_iff_exists.1 h2
 have e : svS race F d = y:=by unfold svS El; rw [hy]; rfl
 have g:=swM_get hy
 rw [e]
 have gd:=(h.ok y g.1).1
 exact ⟨h1,g,gd.time (.inr g.2.1),gd.fault g.2.1⟩
theorem EK (race : ByteArray) (F : List Dx) : (Uc race F).Pairwise fun a b=>cB a.Who b.Who < 0:=((entL_up race F).sublist List.filter_sublist).imp fun {a b} h=>by
 rw [KM,decide_eq_true_eq] at h
 exact h
theorem KX {F : List Dx} (h : FG F) (race : ByteArray) : (Uc race F).length ≤ 4:=by
 have h1:=List.length_filter_le (SL race F) (DU race F)
 have h2:=JO h race
 rw [KQ] at h1
 unfold Uc
 omega
def BC (race : ByteArray) (F : List Dx) (w : ByteArray) : Int:=El (Zr (BB race F (Uc race F)) []) w 0
theorem MZ (V : List Iw) (m : List (ByteArray × Int)) (w : ByteArray) (h : ∀ v ∈ V,v.Who ≠ w) : El (Zr V m) w 0 = El m w 0:=by
 unfold Zr
 induction V generalizing m with
 | nil=>rfl
 | cons v V ih =>
  rw [List.foldl_cons,ih _ fun u hu=>h u (List.mem_cons_of_mem _ hu),Yc,if_neg fun e=>h v List.mem_cons_self e.symm]
theorem VZ (V : List Iw) (m : List (ByteArray × Int)) (v : Iw) (hv : v ∈ V) (hp : (V.map (·.Who)).Nodup) : El (Zr V m) v.Who 0 = v.Fault:=by
 induction V generalizing m with
 | nil=>cases hv
 | cons u V ih =>
  simp only [List.map_cons,List.nodup_cons] at hp
  have e : Zr (u :: V) m = Zr V (Gw m u.Who u.Fault):=rfl
  rw [e]
  rcases List.mem_cons.1 hv with rfl | hv
  ·rw [MZ V _ v.Who fun z hz e=>hp.1 (by rw [← e]; exact List.mem_map_of_mem hz),Yc,if_pos rfl]
  ·exact ih _ hv hp.2
theorem fltS_is {F : List Dx} (h : FG F) {race : ByteArray} {d : Dx} (hd : d ∈ Uc race F) : BC race F d.Who = (svS race F d).Fault:=by
 obtain ⟨_,_,_,f0,_⟩:=EJ h hd
 have hup:=EK race F
 have hnd : ((BB race F (Uc race F)).map (·.Who)).Nodup:=by
  unfold BB
  rw [List.map_map]
  exact List.pairwise_map.2 ((hup.sublist List.filter_sublist).imp fun {a b} hab e=>by
   have e' : a.Who = b.Who:=e
   rw [e',Sz] at hab; omega)
 unfold BC
 by_cases hf : 0 < (svS race F d).Fault
 ·exact VZ _ [] (Iw.mk d.Who (svS race F d).Fault []) (List.mem_map.2 ⟨d,List.mem_filter.2 ⟨hd,decide_eq_true hf⟩,rfl⟩) hnd
 ·rw [MZ _ _ _ fun v hv e=>?_]
  ·have : (svS race F d).Fault = 0:=by omega
   rw [this]; rfl
  ·obtain ⟨u,hu,rfl⟩:=List.mem_map.1 hv
   obtain ⟨hu1,hu2⟩:=List.mem_filter.1 hu
   have hu2:=of_decide_eq_true hu2
   simp only at e
   have : svS race F u = svS race F d:=by unfold svS; rw [e]
   rw [this] at hu2
   exact hf hu2
def Yv (race : ByteArray) (F : List Dx) : List Eb:=AZ (BC race F) (Px race F (Uc race F))
theorem WA {F : List Dx} (h : FG F) (p : Kq) (race : ByteArray) : Wx p F race = some (Yv race F,Yu (Uc race F) [],0):=by
 have hlen:=KX h race
 have hel:=KQ race F
 have hef:=JO h race
 unfold Wx
 rw [SK h p race]
 simp only [Option.bind_some,Og]
 rw [EI p F race _ (DU race F) 0 [] [] [] (by simp; omega) (by simp; omega),List.nil_append,List.nil_append]
 have hQ : (Px race F (Uc race F)).length ≤ 4:=by unfold Px; rw [List.length_map]; exact hlen
 have hV : (BB race F (Uc race F)).length ≤ 4:=by
  unfold BB
  rw [List.length_map]
  exact Nat.le_trans (List.length_filter_le _ _) hlen
 have hr:=rank_is (Q:=Px race F (Uc race F)) (V:=BB race F (Uc race F)) (by omega) (fun s hs=>by
   unfold Px at hs
   obtain ⟨d,hd,rfl⟩:=List.mem_map.1 hs
   obtain ⟨d1,_,d3,_⟩:=EJ h hd
   obtain ⟨_,k2,k3⟩:=HG d1
   exact ⟨(KW h k3 (by omega)).2.1,d3⟩)
  (by unfold Px; rw [List.pairwise_map]; exact EK race F) (by omega) (fun s hs=>by
   unfold BB at hs
   obtain ⟨d,hd,rfl⟩:=List.mem_map.1 hs
   obtain ⟨d1,_,_,d4⟩:=EJ h (List.mem_filter.1 hd).1
   obtain ⟨_,k2,k3⟩:=HG d1
   exact ⟨(KW h k3 (by omega)).2.1,d4⟩)
  (by unfold BB; rw [List.pairwise_map]; exact (EK race F).sublist List.filter_sublist)
 show Option.bind (Xn (Px race F (Uc race F)) (BB race F (Uc race F))) _ = _
 rw [hr]
 rfl
end Go.Proofs.YtancihamhcdboaaGreatDoor
namespace Go.Proofs.YtancihamhcdboaaGreatDoor
open Go
theorem DX {race : ByteArray} {F : List Dx} (h : FG F) {y : Eb} (hy : y ∈ Yv race F) : ∃ d ∈ Uc race F,y.Who = d.Who ∧ y.Time = (svS race F d).Time ∧ y.Fault = (svS race F d).Fault ∧ ((0 < y.Rank ∧ y.Rank ≤ 4 ∧ 0 < y.Time ∧ y.Fault = 0) ∨ (y.Rank = 0 ∧ ¬ (0 < y.Time ∧ y.Fault = 0))):=by
 have hlen:=KX h race
 have hmk : ∀ s ∈ Px race F (Uc race F),∃ d ∈ Uc race F,s.Who = d.Who ∧ s.Time = (svS race F d).Time ∧ BC race F s.Who = (svS race F d).Fault:=fun s hs=>by
  unfold Px at hs
  obtain ⟨d,hd,rfl⟩:=List.mem_map.1 hs
  exact ⟨d,hd,rfl,rfl,fltS_is h hd⟩
 have hG : ((Px race F (Uc race F)).filter (isG (BC race F))).length ≤ 4:=by
  refine Nat.le_trans (List.length_filter_le _ _) ?_
  unfold Px
  rw [List.length_map]; exact hlen
 unfold Yv AZ at hy
 rcases List.mem_append.1 hy with hy | hy
 ·obtain ⟨x,hx,e1,e2,e3⟩:=OM _ _ _ _ _ hy
  rw [Xt] at hx
  obtain ⟨s,hs,rfl⟩:=List.mem_map.1 hx
  obtain ⟨hs1,hs2⟩:=List.mem_filter.1 hs
  obtain ⟨d,hd,d1,d2,d3⟩:=hmk s hs1
  unfold isG at hs2
  simp only [Bool.and_eq_true,decide_eq_true_eq] at hs2
  have hup : (((Px race F (Uc race F)).filter (isG (BC race F))).map (mkR (BC race F))).Pairwise fun a b=>cB a.Who b.Who < 0:=by
   rw [List.pairwise_map]
   refine List.Pairwise.sublist List.filter_sublist ?_
   unfold Px
   rw [List.pairwise_map]
   exact EK race F
  obtain ⟨r1,r2,_⟩:=(SI _ 0 0 0 (QB hup) (.inl rfl)).1 y hy
  rw [Xu,List.length_map] at r2
  refine ⟨d,hd,e1.trans d1,e2.trans d2,e3.trans d3,.inl ⟨by omega,by omega,?_,?_⟩⟩
  ·rw [e2]; exact hs2.2
  ·rw [e3]; exact hs2.1
 ·obtain ⟨s,hs,rfl⟩:=List.mem_map.1 hy
  obtain ⟨hs1,hs2⟩:=List.mem_filter.1 hs
  obtain ⟨d,hd,d1,d2,d3⟩:=hmk s hs1
  refine ⟨d,hd,d1,d2,d3,.inr ⟨rfl,fun hh=>?_⟩⟩
  unfold isG at hs2
  have h1 : BC race F s.Who = 0:=hh.2
  have h2 : 0 < s.Time:=hh.1
  rw [decide_eq_true h1,decide_eq_true h2] at hs2
  cases hs2
def Rk3 (a b : Eb) : Prop:=(0 < a.Rank ∧ 0 < b.Rank ∧ Rk2 a b) ∨ (0 < a.Rank ∧ b.Rank = 0) ∨ (a.Rank = 0 ∧ b.Rank = 0 ∧ cB a.Who b.Who < 0)
theorem QY (race : ByteArray) (F : List Dx) : (Px race F (Uc race F)).Pairwise fun a b=>cB a.Who b.Who < 0:=by
 unfold Px
 rw [List.pairwise_map]
 exact EK race F
theorem good_up (race : ByteArray) (F : List Dx) : (((Px race F (Uc race F)).filter (isG (BC race F))).map (mkR (BC race F))).Pairwise fun a b=>cB a.Who b.Who < 0:=by
 rw [List.pairwise_map]
 exact (QY race F).sublist List.filter_sublist
theorem rank_up (race : ByteArray) (F : List Dx) : (Yv race F).Pairwise Rk3:=by
 obtain ⟨A,B⟩:=SI _ 0 0 0 (QB (good_up race F)) (.inl rfl)
 unfold Yv AZ
 rw [List.pairwise_append]
 refine ⟨?_,?_,fun a ha b hb=>?_⟩
 ·refine List.Pairwise.imp_of_mem (fun {a b} ha hb hab=>.inl ⟨?_,?_,hab⟩) B
  ·have:=(A a ha).1; omega
  ·have:=(A b hb).1; omega
 ·rw [List.pairwise_map]
  exact ((QY race F).sublist List.filter_sublist).imp fun {a b} hab=>.inr (.inr ⟨rfl,rfl,hab⟩)
 ·obtain ⟨s,_,rfl⟩:=List.mem_map.1 hb
  exact .inr (.inl ⟨by have:=(A a ha).1; omega,rfl⟩)
theorem NA (race : ByteArray) (F : List Dx) : ((Yv race F).map (·.Who)).Perm ((Uc race F).map (·.Who)):=by
 have e1 : (Px race F (Uc race F)).map (·.Who) = (Uc race F).map (·.Who):=by unfold Px; rw [List.map_map]; rfl
 unfold Yv AZ
 rw [List.map_append,UM,← e1]
 have e2 : ∀ l : List Kg,(l.map (mkR (BC race F))).map (·.Who) = l.map (·.Who):=fun l=>by rw [List.map_map]; rfl
 have p1 : ((Pv FV (((Px race F (Uc race F)).filter (isG (BC race F))).map (mkR (BC race F)))).map (·.Who)).Perm (((Px race F (Uc race F)).filter (isG (BC race F))).map (·.Who)):=by
  rw [← e2]
  exact (RX _ _).map _
 rw [e2]
 refine (p1.append_right _).trans ?_
 rw [← List.map_append]
 exact (List.filter_append_perm _ _).map _
theorem ON (race : ByteArray) (F : List Dx) : ((Uc race F).map (·.Who)).Nodup:=List.pairwise_map.2 ((EK race F).imp fun {a b} h e=>by rw [e,Sz] at h; omega)
theorem rank_nd (race : ByteArray) (F : List Dx) : ((Yv race F).map (·.Who)).Nodup:=(NA race F).nodup_iff.2 (ON race F)
theorem KY {F : List Dx} (h : FG F) (race : ByteArray) : (Yv race F).length ≤ 4:=by
 have:=(NA race F).length_eq
 rw [List.length_map,List.length_map] at this
 have:=KX h race
 omega
theorem SM (H : List Dx) (m : List (ByteArray × ByteArray)) (w : ByteArray) (h : ∀ d ∈ H,d.Who ≠ w) : El (Yu H m) w An = El m w An:=by
 unfold Yu
 induction H generalizing m with
 | nil=>rfl
 | cons v H ih =>
  rw [List.foldl_cons,ih _ fun u hu=>h u (List.mem_cons_of_mem _ hu),Yc,if_neg fun e=>h v List.mem_cons_self e.symm]
theorem KZ (H : List Dx) (m : List (ByteArray × ByteArray)) (d : Dx) (hd : d ∈ H) (hp : (H.map (·.Who)).Nodup) : El (Yu H m) d.Who An = d.Club:=by
 induction H generalizing m with
 | nil=>cases hd
 | cons u H ih =>
  simp only [List.map_cons,List.nodup_cons] at hp
  have e : Yu (u :: H) m = Yu H (Gw m u.Who u.Club):=rfl
  rw [e]
  rcases List.mem_cons.1 hd with rfl | hd
  ·rw [SM H _ d.Who fun z hz e=>hp.1 (by rw [← e]; exact List.mem_map_of_mem hz),Yc,if_pos rfl]
  ·exact ih _ hd hp.2
def scS (C : List (ByteArray × ByteArray)) (r : Em) (y : Eb) : Dy:=Dy.mk r.Key y.Who (El C y.Who An) y.Rank (decide (1 < r.Legs))
theorem LA (r : Em) (r1 : List Eb × List (ByteArray × ByteArray) × Int) (j : List Dy → Option (List Ih × Int)) : ∀ (ys : List Eb) (i : Nat) (x : List Dy),x.length + ys.length ≤ 1000 → Ml r r1 j ys i x = j (x ++ ys.map (scS r1.2.1 r))
 | [],i,x,_=>by simp [Ml]
 | y :: ys,i,x,h=>by
  simp only [List.length_cons] at h
  rw [Ml,Gn (by unfold Sq; exact decide_eq_true (by omega)),LA r r1 j ys (i + 1) _ (by simp; omega)]
  unfold scS
  simp
def CC (r : Em) (F : List Dx) : List Dy:=(Yv r.Key F).map (scS (Yu (Uc r.Key F) []) r)
theorem rows_gd {F : List Dx} (h : FG F) (r : Em) : GGd r.Key (decide (1 < r.Legs)) (CC r F):=by
 have hnd:=rank_nd r.Key F
 have hup:=rank_up r.Key F
 refine ⟨by unfold CC; rw [List.length_map]; have:=KY h r.Key; omega,fun x hx=>?_,?_,?_,?_⟩
 ·obtain ⟨y,hy,rfl⟩:=List.mem_map.1 hx
  obtain ⟨d,hd,e1,_,_,e4⟩:=DX h hy
  obtain ⟨d1,_⟩:=EJ h hd
  obtain ⟨_,k2,k3⟩:=HG d1
  have hw:=(KW h k3 (by omega)).1
  have hc:=UO h k3 k2
  refine ⟨rfl,rfl,?_,?_,?_,?_⟩
  ·show y.Who ∈ HI
   rw [e1]
   unfold HI
   simp only [List.mem_cons,List.not_mem_nil,or_false] at hw ⊢
   rcases hw with hw | hw | hw | hw <;> simp [hw]
  ·show El _ y.Who An ∈ IQ
   rw [e1,KZ _ [] d hd (ON r.Key F)]
   unfold IQ
   simp only [List.mem_cons,List.not_mem_nil,or_false] at hc ⊢
   rcases hc with hc | hc | hc <;> simp [hc]
  ·show 0 ≤ y.Rank
   omega
  ·show y.Rank ≤ 6
   omega
 ·unfold CC
  rw [List.pairwise_map]
  refine List.Pairwise.imp_of_mem (fun {a b} ha hb hab=>?_) hup
  rw [DV]
  refine .inr ⟨rfl,?_⟩
  obtain ⟨_,_,_,_,_,ea⟩:=DX h ha
  obtain ⟨_,_,_,_,_,eb⟩:=DX h hb
  show (if a.Rank = 0 then (301 : Int) else a.Rank) < (if b.Rank = 0 then (301 : Int) else b.Rank) ∨ ((if a.Rank = 0 then (301 : Int) else a.Rank) = (if b.Rank = 0 then (301 : Int) else b.Rank) ∧ cB a.Who b.Who < 0)
  rcases hab with ⟨h1,h2,h3,h4,h5,h6⟩ | ⟨h1,h2⟩ | ⟨h1,h2,h3⟩
  ·rw [if_neg (by omega),if_neg (by omega)]
   by_cases e : a.Rank = b.Rank
   ·exact .inr ⟨e,h6 (h5.1 e)⟩
   ·exact .inl (by omega)
  ·rw [if_neg (by omega),if_pos h2]
   exact .inl (by omega)
  ·rw [if_pos h1,if_pos h2]
   exact .inr ⟨rfl,h3⟩
 ·unfold CC
  rw [List.pairwise_map]
  exact List.pairwise_map.1 hnd
 ·intro a x b e hx
  unfold CC Yv AZ at e
  obtain ⟨l1,l2,he,ha,hxb⟩:=List.map_eq_append_iff.1 e
  obtain ⟨z,l3,hl2,hz,hb⟩:=List.map_eq_cons_iff.1 hxb
  subst hl2
  have hzr : 0 < z.Rank:=by rw [← hz] at hx; exact hx
  -- z stands among the good ones
  have hin : ∃ l4,rkF 0 0 0 (Pv FV (((Px r.Key F (Uc r.Key F)).filter (isG (BC r.Key F))).map (mkR (BC r.Key F)))) = l1 ++ z :: l4:=by
   rcases List.append_eq_append_iff.1 he with ⟨c,h1,h2⟩ | ⟨c,h1,h2⟩
   ·exfalso
    have : z ∈ ((Px r.Key F (Uc r.Key F)).filter fun s=>!isG (BC r.Key F) s).map (mkR (BC r.Key F)):=by rw [h2]; simp
    obtain ⟨s,_,rfl⟩:=List.mem_map.1 this
    simp [mkR] at hzr
   ·cases c with
    | nil =>
     exfalso
     rw [List.nil_append] at h2
     have : z ∈ ((Px r.Key F (Uc r.Key F)).filter fun s=>!isG (BC r.Key F) s).map (mkR (BC r.Key F)):=by rw [← h2]; simp
     obtain ⟨s,_,rfl⟩:=List.mem_map.1 this
     simp [mkR] at hzr
    | cons c0 c =>
     simp only [List.cons_append,List.cons.injEq] at h2
     exact ⟨c,by rw [h1,h2.1]⟩
  obtain ⟨l4,hl4⟩:=hin
  have hal : a.length = l1.length:=by rw [← ha,List.length_map]
  have hzx : x.Rank = z.Rank:=by rw [← hz]; rfl
  rcases UN _ 0 0 0 l1 z l4 hl4 with h1 | ⟨_,_,h3⟩ | ⟨d,y,h1,h2⟩
  ·left; rw [hzx,h1,hal]; simp
  ·omega
  ·right
   refine ⟨d.map (scS (Yu (Uc r.Key F) []) r),scS (Yu (Uc r.Key F) []) r y,?_,?_⟩
   ·rw [← ha,h1,List.map_append]; rfl
   ·rw [hzx,← h2]; rfl
def OO (x y : Dy) : Bool:=decide (Oc x y < 0)
theorem WB (l : List Dy) (hl : l.length ≤ 19) : Ho l = some (Pv OO l):=by
 have hs : Hq l 0 (l.length : Int) = some (Pv OO l):=by
  unfold Hq
  simp only [Og]
  have hins : ∀ (k : List Dy → Option (List Dy)) (rp : List Dy) (x : Dy) (post : List Dy),((rp ++ x :: post).length : Int) = (l.length : Int) → (∀ y,y ∈ rp ∨ y = x ∨ y ∈ post → y ∈ (rp ++ x :: post)) →
    Ex 0 k (((rp.length : Int) - 0).toNat + 2) (rp.reverse ++ x :: post) (rp.length : Int) = k ((Ur OO x rp).reverse ++ post):=by
   intro k rp x post h1 _
   exact KE (fun x y k=>k (OO x y)) OO k (Ex 0 k) (fun _ _ _=>rfl) rp x post _ (by omega) (by simp at h1; omega) fun y _ k'=>rfl
  cases l with
  | nil=>rfl
  | cons x l =>
   have hw : W (0 + 1) = (([x] : List Dy).length : Int):=rfl
   rw [hw]
   exact BX OO (fun x=>some x) (fun k x i=>Ex 0 k ((i - 0).toNat + 2) x i) (Fp ((x :: l).length : Int) 0 fun x=>some x) ((x :: l).length : Int) (fun _ _ _=>rfl)
    (fun k rp x post h1 h2=>hins k rp x post h1 h2) l [x] _ (by simp only [List.length_cons,List.length_nil]; omega) (by simp only [List.length_cons,List.length_nil]; omega) (by simp only [List.length_cons,List.length_nil] at hl ⊢; omega)
 unfold Ho Ka
 simp only [Og]
 rw [Gk,if_neg (by simp; omega),hs]
 simp only [Option.bind_some]
 rw [Gl,if_neg (by simp; omega)]
 rfl
theorem ltRs_is (x y : Dy) (hr : x.Race = y.Race) (hx : 0 ≤ x.Rank ∧ x.Rank ≤ 6) (hy : 0 ≤ y.Rank ∧ y.Rank ≤ 6) : OO x y = EX x y:=by
 unfold OO EX Oc
 apply decide_eq_decide.2
 have hk : ∀ z : Dy,kR z = if z.Rank = 0 then 301 else z.Rank:=fun _=>rfl
 rw [hk,hk]
 simp only [hr,Sz,Int.lt_irrefl,true_and,false_or]
 by_cases h1 : x.Rank = 0 <;> by_cases h2 : y.Rank = 0
 ·rw [if_neg (by simp [h1,h2]),if_neg (by simp [h1,h2]),if_pos h1,if_pos h2]
  show cB x.Who y.Who < 0 ↔ _
  omega
 ·rw [if_pos (by simp [h1,h2]),Ox (by omega) (by omega),if_pos h1,if_neg h2]
  omega
 ·rw [if_pos (by simp [h1,h2]),Ox (by omega) (by omega),if_neg h1,if_pos h2]
  omega
 ·rw [if_neg (by simp [h1,h2]),if_neg h1,if_neg h2]
  by_cases h3 : x.Rank = y.Rank
  ·rw [if_neg (by simp [h3])]
   show cB x.Who y.Who < 0 ↔ _
   omega
  ·rw [if_pos (by simpa using h3),Ox (by omega) (by omega)]
   omega
theorem YF (x : Dy) : EX x x = false:=by
 rw [← Bool.not_eq_true,DV,Sz,Sz]
 omega
theorem WC {race : ByteArray} {rel : Bool} {g : List Dy} (h : GGd race rel g) : Ho g = some g:=by
 rw [WB g (by have:=h.len; omega),IP (lt:=OO) (lt':=EX) g fun x hx y hy=>ltRs_is x y ((h.row x hx).1.trans (h.row y hy).1.symm) (h.row x hx).2.2.2.2 (h.row y hy).2.2.2.2]
 congr 1
 exact HC YF SH g g (List.Pairwise.imp (fun {a b} (hab : EX a b = true) (_ : EX b a = false)=>hab) h.asc) h.asc fun _=>Iff.rfl
def WD (g : List Dy) : List (List Dy):=if g = [] then [] else [g]
theorem NB (g : List Dy) : (WD g).flatten = g:=by
 unfold WD
 split
 ·rename_i h; rw [h]; rfl
 ·simp
theorem YG {race : ByteArray} {rel : Bool} {g : List Dy} (hr : race ∈ [Rj,Uu,Xi]) (h : GGd race rel g) : LGd (WD g):=by
 refine ⟨fun g' hg'=>?_,?_,by rw [NB]; have:=h.len; omega⟩
 ·unfold WD at hg'
  split at hg'
  ·cases hg'
  ·rename_i hne
   rw [List.mem_singleton] at hg'
   subst hg'
   exact ⟨hne,race,rel,hr,h⟩
 ·unfold WD
  split <;> simp
def gvS (r : Eg) : Ej:=Ej.mk ((r.x_.Race ++ Qe) ++ r.x_.Who) r.points_
theorem YH {t : Mz} (ht : MW t) {race : ByteArray} {rel : Bool} {g : List Dy} (hr : race ∈ [Rj,Uu,Xi]) (h : GGd race rel g) : ∃ R,Sd t g = some R ∧ R.length ≤ 15 ∧ (∀ r ∈ R,Yn g r) ∧ Vh t g = some (R.map gvS,0):=by
 have hG:=YG hr h
 have hb:=both_ok ht hG
 obtain ⟨R,h1,h2,h3⟩:=rows_is t ht.toTOk (WD g) hG.one hG.ne hG.len
 rw [NB] at hb h1 h3
 refine ⟨R,h1,h2,h3,?_⟩
 have hsz : ∀ x ∈ g,x.Race.size ≤ 40 ∧ x.Who.size ≤ 40:=fun x hx=>by
  obtain ⟨e1,_,e3,_⟩:=h.row x hx
  have k1 : ∀ s ∈ [Rj,Uu,Xi],s.size ≤ 40:=by decide +kernel
  have k2 : ∀ s ∈ HI,s.size ≤ 40:=by decide +kernel
  exact ⟨by rw [e1]; exact k1 _ hr,k2 _ e3⟩
 have h20 : Qe.size = 1:=by decide +kernel
 unfold Vh
 rw [hb,Option.bind_some,if_neg (by simp),h1,Option.bind_some]
 simp only [Kt]
 have loop : ∀ (R : List Eg) (i : Nat) (x : List Ej),(∀ r ∈ R,r.x_ ∈ g) → x.length + R.length ≤ 1000 → Nc (fun (x1 : List Ej)=>some (x1,0)) R i x = some (x ++ R.map gvS,0):=by
  intro R
  induction R with
  | nil=>intro i x _ _; simp [Nc]
  | cons r R ih =>
   intro i x h1 h2
   simp only [List.length_cons] at h2
   obtain ⟨c1,c2⟩:=hsz r.x_ (h1 r List.mem_cons_self)
   rw [Nc,Gn (decide_eq_true (by omega)),Gn (decide_eq_true (by rw [ByteArray.size_append]; omega)),Gn (by unfold Sq; exact decide_eq_true (by omega)),ih _ _ (fun z hz=>h1 z (List.mem_cons_of_mem _ hz)) (by simp; omega)]
   simp [gvS]
 rw [loop R 0 [] (fun r hr=>(h3 r hr).1) (by simp; omega),List.nil_append]
def ofS (G : List Ej) (m : List (ByteArray × Ee)) : List (ByteArray × Ee):=G.foldl (fun m y=>Gw m y.Key y.Points) m
theorem LB (j : List (ByteArray × Ee) → Option (List Ih × Int)) : ∀ (G : List Ej) (i : Nat) (m : List (ByteArray × Ee)),Nj j G i m = j (ofS G m)
 | [],_,_=>rfl
 | y :: G,i,m=>by rw [Nj,LB j G (i + 1) _]; rfl
def ptS (m : List (ByteArray × Ee)) (k : ByteArray) : Ee:=if (Pi m k).isSome then El m k (Ee.mk 0 0) else Ee.mk 0 1
def DY (C : List (ByteArray × ByteArray)) (m : List (ByteArray × Ee)) (r : Em) (y : Eb) : Ih:=Ih.mk y.Rank y.Who (El C y.Who An) y.Time y.Fault (ptS m ((r.Key ++ Qe) ++ y.Who))
theorem LC (r : Em) (r1 : List Eb × List (ByteArray × ByteArray) × Int) (m : List (ByteArray × Ee)) (j : List Ih → Option (List Ih × Int)) (hk : r.Key.size ≤ 40) : ∀ (ys : List Eb) (i : Nat) (x : List Ih),(∀ y ∈ ys,y.Who.size ≤ 40) → x.length + ys.length ≤ 1000 → Mm r r1 m j ys i x = j (x ++ ys.map (DY r1.2.1 m r))
 | [],i,x,_,_=>by simp [Mm]
 | y :: ys,i,x,hw,h=>by
  simp only [List.length_cons] at h
  have h20 : Qe.size = 1:=by decide +kernel
  have hy:=hw y List.mem_cons_self
  rw [Mm,Gn (decide_eq_true (by omega)),Gn (decide_eq_true (by rw [ByteArray.size_append]; omega))]
  simp only [Og]
  have hroom : Sq x.length = true:=by unfold Sq; exact decide_eq_true (by omega)
  have hfin:=LC r r1 m j hk ys (i + 1) (x ++ [DY r1.2.1 m r y]) (fun z hz=>hw z (List.mem_cons_of_mem _ hz)) (by simp; omega)
  have hl : DY r1.2.1 m r y = Ih.mk y.Rank y.Who (El r1.2.1 y.Who An) y.Time y.Fault (ptS m ((r.Key ++ Qe) ++ y.Who)):=rfl
  have hp : ptS m ((r.Key ++ Qe) ++ y.Who) = if (Pi m ((r.Key ++ Qe) ++ y.Who)).isSome then El m ((r.Key ++ Qe) ++ y.Who) (Ee.mk 0 0) else Ee.mk 0 1:=rfl
  cases hc : (Pi m ((r.Key ++ Qe) ++ y.Who)).isSome with
  | true =>
   rw [hc,if_pos rfl] at hp
   rw [if_neg (by simp),Gn hroom]
   rw [hl,hp] at hfin
   rw [hfin,List.map_cons,hl,hp]
   simp
  | false =>
   rw [hc,if_neg (by simp)] at hp
   rw [if_pos (by simp),Gn hroom]
   rw [hl,hp] at hfin
   rw [hfin,List.map_cons,hl,hp]
   simp
theorem SN {p : Kq} (hp : Zo p) {F : List Dx} (h : FG F) {r : Em} (hr : r ∈ p.Races) : ∃ R,Sd p.Table (CC r F) = some R ∧ R.length ≤ 15 ∧ (∀ x ∈ R,Yn (CC r F) x) ∧ Vh p.Table (CC r F) = some (R.map gvS,0) ∧
  Pn p F r = some ((Yv r.Key F).map (DY (Yu (Uc r.Key F) []) (ofS (R.map gvS) []) r),0):=by
 have hkey:=(hp.races r hr).2
 have hg:=rows_gd h r
 obtain ⟨R,h1,h2,h3,h4⟩:=YH hp.table hkey hg
 refine ⟨R,h1,h2,h3,h4,?_⟩
 have hlen:=KY h r.Key
 have k1 : ∀ s ∈ [Rj,Uu,Xi],s.size ≤ 40:=by decide +kernel
 have k2 : ∀ s ∈ [Yg,CS,CT,CU],s.size ≤ 40:=by decide +kernel
 have hw : ∀ y ∈ Yv r.Key F,y.Who.size ≤ 40:=fun y hy=>by
  obtain ⟨d,hd,e1,_⟩:=DX h hy
  obtain ⟨_,k3,k4⟩:=HG (EJ h hd).1
  rw [e1]
  exact k2 _ (KW h k4 (by omega)).1
 unfold Pn
 rw [WA h p r.Key]
 simp only [Option.bind_some,decide_true,Bool.not_true,Bool.false_eq_true,if_false,Og]
 rw [LA r _ _ (Yv r.Key F) 0 [] (by simp; omega),List.nil_append]
 have hs:=WC hg
 show Option.bind (Ho (CC r F)) _ = _
 rw [hs]
 simp only [Option.bind_some]
 rw [h4]
 simp only [Option.bind_some,decide_true,Bool.not_true,Bool.false_eq_true,if_false]
 rw [LB,LC r _ _ _ (k1 _ hkey) (Yv r.Key F) 0 [] hw (by simp; omega),List.nil_append]
end Go.Proofs.YtancihamhcdboaaGreatDoor
namespace Go.Proofs.YtancihamhcdboaaGreatDoor
open Go
structure LG (l : List Dx) : Prop where
 ok : DsG l
 names : ∀ d ∈ l,d.Who ∈ HJ ∧ d.Club ∈ Zm
 len : l.length ≤ 40
theorem LG.facts {l : List Dx} (h : LG l) (at_ : Int) : FG (Xv l at_) :=
 ⟨fun d hd=>⟨h.ok.each d ((FW l at_).subset hd),h.names d ((FW l at_).subset hd)⟩,Nat.le_trans (FW l at_).length_le h.len⟩
theorem YI (j : Option (Option Lc × Int)) : ∀ (ats : List Int) (i : Nat),(∀ a ∈ ats,Iz a = true) → Qa j ats i = j
 | [],_,_=>rfl
 | a :: ats,i,h=>by
  rw [Qa,h a List.mem_cons_self,if_neg (by simp)]
  exact YI j ats (i + 1) fun b hb=>h b (List.mem_cons_of_mem _ hb)
theorem UP {p : Kq} (hp : Zo p) {l : List Dx} (h : LG l) (ats : List Int) (a : Int) (hm : ∀ b ∈ ats ++ [a],Iz b = true) (hl : ats.length ≤ 1000) : Zb p l (ats ++ [a]) = some (some (Lc.mk p (Xv l a)),0):=by
 have hlen:=h.len
 have hn : nth (ats ++ [a]) (W ((((ats ++ [a]).length : Nat) : Int) - 1)) = a:=by
  rw [List.length_append,List.length_singleton,Ox (by omega) (by omega)]
  exact Xh ats a [] (by omega)
 have hi : inB (W ((((ats ++ [a]).length : Nat) : Int) - 1)) (ats ++ [a]).length = true:=by
  rw [List.length_append,List.length_singleton,Ox (by omega) (by omega)]
  exact Ju.2 (by omega)
 unfold Zb
 rw [OL hp]
 simp only [Option.bind_some,decide_true,Bool.not_true,Bool.false_eq_true,if_false]
 rw [h.ok.chk]
 simp only [Option.bind_some,decide_true,Bool.not_true,Bool.false_eq_true,if_false,Og]
 rw [YI _ _ 0 hm,Gn hi,hn,SF p l a (by omega)]
 rfl
theorem YJ (key : ByteArray) : ∀ (l : List Em) (i : Nat),(l.map (·.Key)).Nodup → ∀ r ∈ l,r.Key = key → ∃ k : Nat,Ha key (-1) l i = ((i + k : Nat) : Int) ∧ l[k]? = some r
 | [],_,_,r,h,_=>by cases h
 | x :: l,i,hn,r,h,hk=>by
  rw [Ha]
  unfold Xy
  simp only [List.map_cons,List.nodup_cons] at hn
  by_cases hx : x.Key = key
  ·rw [if_pos (decide_eq_true hx)]
   rcases List.mem_cons.1 h with rfl | h
   ·exact ⟨0,by simp,rfl⟩
   ·exact absurd (List.mem_map_of_mem (f:=(·.Key)) h) (by rw [hk,← hx]; exact hn.1)
  ·rw [if_neg (by simpa using hx)]
   rcases List.mem_cons.1 h with rfl | h
   ·exact absurd hk hx
   ·obtain ⟨k,e1,e2⟩:=YJ key l (i + 1) hn.2 r h hk
    exact ⟨k + 1,by rw [e1]; congr 1; omega,by simpa using e2⟩
theorem LD {p : Kq} (hp : Zo p) {F : List Dx} (h : FG F) {r : Em} (hr : r ∈ p.Races) : Xm p F r.Key = some (r,0):=by
 obtain ⟨k,e1,e2⟩:=YJ r.Key p.Races 0 hp.keys r hr rfl
 have hidx : Hb p.Races r.Key = (k : Int):=by
  unfold Hb
  rw [Og,e1]
  simp
 have hk : k < p.Races.length:=by
  rcases Nat.lt_or_ge k p.Races.length with h | h
  ·exact h
  ·rw [List.getElem?_eq_none h] at e2; cases e2
 have hf:=JO h r.Key
 have hnth : nth p.Races (k : Int) = r:=by unfold nth; simp [List.getD,e2]
 unfold Xm
 rw [hidx,if_neg (by simp),SK h]
 simp only [Option.bind_some]
 rw [if_neg (by rw [KQ]; simp; omega),Gn (Ju.2 (by omega)),hnth]
theorem all_l {p : Kq} (hp : Zo p) {F : List Dx} (h : FG F) (j : Option Int) : ∀ (ys : List Em) (i : Nat),(∀ r ∈ ys,r ∈ p.Races) → Qb p F j ys i = j
 | [],_,_=>rfl
 | r :: ys,i,hy=>by
  rw [Qb,LD hp h (hy r List.mem_cons_self)]
  simp only [Option.bind_some,decide_true,Bool.not_true,Bool.false_eq_true,if_false]
  exact all_l hp h j ys (i + 1) fun z hz=>hy z (List.mem_cons_of_mem _ hz)
theorem all_ok {p : Kq} (hp : Zo p) {F : List Dx} (h : FG F) : AK p F = some 0:=by
 unfold AK
 rw [Og]
 exact all_l hp h _ p.Races 0 fun _ hr=>hr
theorem ask_is {p : Kq} (hp : Zo p) {l : List Dx} (h : LG l) {r : Em} (hr : r ∈ p.Races) (a : Int) (hm : Iz a = true) : CV p l r.Key a = some (some (Lc.mk p (Xv l a)),r,0):=by
 have ho:=UP hp h [] a (by simpa using hm) (by simp)
 rw [List.nil_append] at ho
 unfold CV
 rw [ho]
 simp only [Option.bind_some,decide_true,Bool.not_true,Bool.false_eq_true,if_false]
 rw [LD hp (h.facts a) hr]
 rfl
theorem SO {p : Kq} (hp : Zo p) {l : List Dx} (h : LG l) {r : Em} (hr : r ∈ p.Races) (a : Int) (hm : Iz a = true) : Wy p l r.Key a = Pn p (Xv l a) r:=by
 unfold Wy
 rw [ask_is hp h hr a hm]
 simp only [Option.bind_some,decide_true,Bool.not_true,Bool.false_eq_true,if_false]
 cases Pn p (Xv l a) r <;> rfl
theorem LG.of {x : List Dx} (h : DsG x) (hn : ∀ d ∈ x,MX d) (hl : x.length ≤ 40) : LG x:=⟨h,fun d hd=>⟨(hn d hd).who,(hn d hd).club⟩,hl⟩
end Go.Proofs.YtancihamhcdboaaGreatDoor
namespace Go.Proofs.YtancihamhcdboaaGreatDoor
open Go
def YK (f : Ee) : Nat:=(f.Num * 60 / f.Den).toNat
theorem UQ (v : Nat) : YK (fr v) = v:=by
 obtain ⟨n,d,e,h1,h2,h3,h4⟩:=KR v
 unfold YK
 rw [e]
 simp only
 rw [show (n : Int) * 60 = ((v * d : Nat) : Int) by rw [← h4]; push_cast; rfl,← Int.natCast_ediv,Int.toNat_natCast,Nat.mul_div_cancel _ h1]
theorem add_frM {u v : Nat} (hu : u ≤ 1000000000) (hv : v ≤ 1000000000) : CW (fr u) (fr v) = some (fr (u + v)):=by
 obtain ⟨n,d,e1,d1,d2,n1,p1⟩:=KR u
 obtain ⟨m,e,e2,d3,d4,m1,p2⟩:=KR v
 unfold CW
 rw [e1,e2]
 simp only
 have b1:=HH (a:=n) (b:=e) (by omega) d4
 have b2:=HH (a:=m) (b:=d) (by omega) d2
 have b3:=HH (a:=d) (b:=e) (by omega) d4
 rw [XX (by omega) d4,XX (by omega) d2,XX (by omega) d4,← Int.natCast_add,Ox (by omega) (by omega),UC (Nat.mul_pos d1 d3) (VU p1 p2) (by omega) (by omega)]
 rfl
def FY (x y : Ej) : Bool:=decide (Qg x y < 0)
theorem SP (l : List Ej) (hl : l.length ≤ 12) : Iq l 0 (l.length : Int) = some (Pv FY l):=by
 unfold Iq
 simp only [Og]
 have hins : ∀ (k : List Ej → Option (List Ej)) (rp : List Ej) (x : Ej) (post : List Ej),((rp ++ x :: post).length : Int) = (l.length : Int) → (∀ y,y ∈ rp ∨ y = x ∨ y ∈ post → y ∈ (rp ++ x :: post)) →
   Fb 0 k (((rp.length : Int) - 0).toNat + 2) (rp.reverse ++ x :: post) (rp.length : Int) = k ((Ur FY x rp).reverse ++ post):=by
  intro k rp x post h1 _
  exact KE (fun x y k=>k (FY x y)) FY k (Fb 0 k) (fun _ _ _=>rfl) rp x post _ (by omega) (by simp at h1; omega) fun y _ k'=>rfl
 cases l with
 | nil=>rfl
 | cons x l =>
  have hw : W (0 + 1) = (([x] : List Ej).length : Int):=rfl
  rw [hw]
  exact BX FY (fun x=>some x) (fun k x i=>Fb 0 k ((i - 0).toNat + 2) x i) (Fx ((x :: l).length : Int) 0 fun x=>some x) ((x :: l).length : Int) (fun _ _ _=>rfl)
   (fun k rp x post h1 h2=>hins k rp x post h1 h2) l [x] _ (by simp only [List.length_cons,List.length_nil]; omega) (by simp only [List.length_cons,List.length_nil]; omega) (by simp only [List.length_cons,List.length_nil] at hl ⊢; omega)
theorem WE (l : List Ej) (hl : l.length ≤ 12) : Jf l = some (Pv FY l):=by
 unfold Jf
 obtain ⟨r,hr⟩:=Option.isSome_iff_exists.1 (XP ⟨l.length,by omega⟩)
 simp only at hr
 rw [hr]
 simp only [Option.bind_some]
 unfold Kl
 rw [show (4611686018427387904 : Nat) = 4611686018427387903 + 1 from rfl,He,Ox (by omega) (by omega),if_pos (decide_eq_true (by omega)),SP l hl]
 rfl
theorem JP (x y : Ej) : FY x y = decide (cB x.Key y.Key < 0):=rfl
theorem YL (x : Ej) : FY x x = false:=by rw [JP,Sz]; rfl
theorem LE (x y z : Ej) (h1 : FY x y = true) (h2 : FY y z = true) : FY x z = true:=by
 rw [JP,decide_eq_true_eq] at *; exact AX h1 h2
theorem QZ {l : List Ej} (h : (l.map (·.Key)).Nodup) : l.Pairwise fun a b=>FY b a = false → FY a b = true:=by
 refine (List.pairwise_map.1 h).imp fun {a b} hne hb=>?_
 rw [JP,decide_eq_false_iff_not] at hb
 rw [JP,decide_eq_true_eq]
 have h0 : cB a.Key b.Key ≠ 0:=fun e=>hne (GZ e)
 have:=HA a.Key b.Key
 omega
def LF (p : Kq) (F : List Dx) (r : Em) : List Eg:=(Sd p.Table (CC r F)).getD []
def Yr (p : Kq) (F : List Dx) (r : Em) : List Ih:=(Yv r.Key F).map (DY (Yu (Uc r.Key F) []) (ofS ((LF p F r).map gvS) []) r)
theorem LH {p : Kq} (hp : Zo p) {F : List Dx} (h : FG F) {r : Em} (hr : r ∈ p.Races) : Pn p F r = some (Yr p F r,0) ∧ Sd p.Table (CC r F) = some (LF p F r) ∧ ∀ x ∈ LF p F r,Yn (CC r F) x:=by
 obtain ⟨R,h1,_,h3,_,h5⟩:=SN hp h hr
 have e : LF p F r = R:=by unfold LF; rw [h1]; rfl
 unfold Yr
 rw [e]
 exact ⟨h5,h1,h3⟩
theorem ofS_get (G : List Ej) (k : ByteArray) : ∀ (m : List (ByteArray × Ee)) (f : Ee),Pi (ofS G m) k = some f → Pi m k = some f ∨ ∃ y ∈ G,y.Key = k ∧ y.Points = f:=by
 unfold ofS
 induction G with
 | nil=>intro m f h; exact .inl h
 | cons g G ih =>
  intro m f h
  rw [List.foldl_cons] at h
  rcases ih _ f h with h | ⟨y,hy,e⟩
  ·have e : Pi (Gw m g.Key g.Points) k = if k = g.Key then some g.Points else Pi m k:=DR g.Key k g.Points m 0
   rw [e] at h
   split at h
   ·rename_i hk
    exact .inr ⟨g,List.mem_cons_self,hk.symm,Option.some.inj h⟩
   ·exact .inl h
  ·exact .inr ⟨y,List.mem_cons_of_mem _ hy,e⟩
theorem UR : Ee.mk 0 1 = fr 0:=by decide +kernel
theorem ptS_fr {L : List Dy} {R : List Eg} (hR : ∀ x ∈ R,Yn L x) (k : ByteArray) : ∃ v,v ≤ 6000 ∧ ptS (ofS (R.map gvS) []) k = fr v:=by
 unfold ptS
 cases hc : Pi (ofS (R.map gvS) []) k with
 | none=>exact ⟨0,by omega,by rw [if_neg (by simp),UR]⟩
 | some f =>
  rw [if_pos (by rfl)]
  rcases ofS_get _ _ _ _ hc with h | ⟨y,hy,_,e2⟩
  ·simp [Pi,Od] at h
  ·obtain ⟨x,hx,rfl⟩:=List.mem_map.1 hy
   obtain ⟨_,_,v,hv,e⟩:=hR x hx
   refine ⟨v,hv,?_⟩
   unfold El
   rw [hc,← e2]
   exact e
theorem US {p : Kq} (hp : Zo p) {F : List Dx} (h : FG F) {r : Em} (hr : r ∈ p.Races) {y : Ih} (hy : y ∈ Yr p F r) : ∃ d ∈ Uc r.Key F,y.Who = d.Who ∧ y.Club = d.Club ∧ y.Time = (svS r.Key F d).Time ∧ y.Fault = (svS r.Key F d).Fault ∧ ((0 < y.Rank ∧ y.Rank ≤ 4 ∧ 0 < y.Time ∧ y.Fault = 0) ∨ (y.Rank = 0 ∧ ¬ (0 < y.Time ∧ y.Fault = 0))) ∧ ∃ v,v ≤ 6000 ∧ y.Points = fr v:=by
 obtain ⟨z,hz,e⟩:=List.mem_map.1 hy
 obtain ⟨d,hd,e1,e2,e3,e4⟩:=DX h hz
 obtain ⟨_,_,hR⟩:=LH hp h hr
 obtain ⟨v,hv,e5⟩:=ptS_fr hR ((r.Key ++ Qe) ++ z.Who)
 have hc : El (Yu (Uc r.Key F) []) z.Who An = d.Club:=by rw [e1,KZ _ [] d hd (ON r.Key F)]
 have f0 : y.Who = z.Who:=by rw [← e,DY]
 have f1 : y.Club = d.Club:=by rw [← e,DY,hc]
 have f2 : y.Time = z.Time:=by rw [← e,DY]
 have f3 : y.Fault = z.Fault:=by rw [← e,DY]
 have f4 : y.Rank = z.Rank:=by rw [← e,DY]
 have f5 : y.Points = fr v:=by rw [← e,DY,e5]
 refine ⟨d,hd,f0.trans e1,f1,f2.trans e2,f3.trans e3,?_,v,hv,f5⟩
 rw [f4,f2,f3]
 exact e4
structure MF (m : List (ByteArray × Ee)) (K : ByteArray → Prop) (u : ByteArray → Nat) : Prop where
 nd : (m.map (·.1)).Nodup
 keys : ∀ k,k ∈ m.map (·.1) ↔ K k
 vals : ∀ k,K k → El m k (Ee.mk 0 0) = fr (u k)
theorem MF.put {m : List (ByteArray × Ee)} {K : ByteArray → Prop} {u : ByteArray → Nat} (h : MF m K u) (k : ByteArray) (v : Nat) : MF (Gw m k (fr v)) (fun z=>z = k ∨ K z) (fun z=>if z = k then v else u z):=by
 obtain ⟨a,b⟩:=OJ k (fr v) m h.nd
 refine ⟨a,fun z=>by rw [b z,h.keys z],fun z hz=>?_⟩
 rw [Yc]
 by_cases e : z = k
 ·rw [if_pos e,if_pos e]
 ·rw [if_neg e,if_neg e]
  rcases hz with hz | hz
  ·exact (e hz).elim
  ·exact h.vals z hz
theorem MF.congr {m : List (ByteArray × Ee)} {K K' : ByteArray → Prop} {u u' : ByteArray → Nat} (h : MF m K u) (hk : ∀ k,K k ↔ K' k) (hu : ∀ k,K' k → u k = u' k) : MF m K' u' :=
 ⟨h.nd,fun k=>(h.keys k).trans (hk k),fun k hk'=>by rw [h.vals k ((hk k).2 hk'),hu k hk']⟩
theorem NC {ν : Type} (k : ByteArray) : ∀ (m : List (ByteArray × ν)) (i : Nat),(Od m k i).isSome = true ↔ k ∈ m.map (·.1)
 | [],_=>by simp [Od]
 | (q,u) :: m,i=>by
  by_cases e : k = q
  ·simp [Od,e]
  ·simp only [Od,e,if_false,List.map_cons,List.mem_cons,false_or]
   exact NC k m (i + 1)
theorem RA {ν : Type} (k : ByteArray) (m : List (ByteArray × ν)) : (Pi m k).isSome = true ↔ k ∈ m.map (·.1):=by
 unfold Pi
 rw [Option.isSome_map,NC k m 0]
theorem HK (j : List (ByteArray × Ee) → Option (List Ej × Int)) : ∀ (ys : List Dx) (i : Nat) (m : List (ByteArray × Ee)) (K : ByteArray → Prop) (u : ByteArray → Nat),MF m K u → (∀ k,k ≠ An → ¬ K k → u k = 0) →
  ∃ m',On j ys i m = j m' ∧ MF m' (fun k=>K k ∨ (k ≠ An ∧ ∃ d ∈ ys,d.Club = k)) u
 | [],i,m,K,u,h,_=>⟨m,rfl,h.congr (fun k=>⟨.inl,fun h=>h.elim id fun ⟨_,d,hd,_⟩=>absurd hd (by simp)⟩) fun _ _=>rfl⟩
 | y :: ys,i,m,K,u,h,h0=>by
  rw [On]
  simp only [Og]
  by_cases hc : y.Club = An
  ·rw [if_neg (by simp [hc])]
   obtain ⟨m',e,g⟩:=HK j ys (i + 1) m K u h h0
   refine ⟨m',e,g.congr (fun k=>or_congr Iff.rfl ⟨fun ⟨a,d,hd,b⟩=>⟨a,d,List.mem_cons_of_mem _ hd,b⟩,fun ⟨a,d,hd,b⟩=>?_⟩) fun _ _=>rfl⟩
   rcases List.mem_cons.1 hd with rfl | hd
   ·exact absurd (b.symm.trans hc) a
   ·exact ⟨a,d,hd,b⟩
  ·by_cases hk : (Pi m y.Club).isSome = true
   ·rw [if_neg (by simp [hk])]
    obtain ⟨m',e,g⟩:=HK j ys (i + 1) m K u h h0
    have hK : K y.Club:=(h.keys _).1 ((RA _ _).1 hk)
    refine ⟨m',e,g.congr (fun k=>⟨fun hh=>hh.imp id fun ⟨a,d,hd,b⟩=>⟨a,d,List.mem_cons_of_mem _ hd,b⟩,fun hh=>?_⟩) fun _ _=>rfl⟩
    rcases hh with hh | ⟨a,d,hd,b⟩
    ·exact .inl hh
    ·rcases List.mem_cons.1 hd with rfl | hd
     ·exact .inl (by rw [← b]; exact hK)
     ·exact .inr ⟨a,d,hd,b⟩
   ·have hk' : (Pi m y.Club).isSome = false:=by simpa using hk
    rw [if_pos (by simp [hc,hk']),UR]
    have hK : ¬ K y.Club:=fun hK=>hk ((RA _ _).2 ((h.keys _).2 hK))
    have h1:=(h.put y.Club 0).congr (K':=fun z=>z = y.Club ∨ K z) (u':=u) (fun _=>Iff.rfl) fun k _=>by
     split
     ·rename_i e; rw [e,h0 _ hc hK]
     ·rfl
    obtain ⟨m',e,g⟩:=HK j ys (i + 1) _ _ u h1 fun k hk hn=>h0 k hk fun hh=>hn (.inr hh)
    refine ⟨m',e,g.congr (fun k=>⟨fun hh=>?_,fun hh=>?_⟩) fun _ _=>rfl⟩
    ·rcases hh with (hh | hh) | ⟨a,d,hd,b⟩
     ·exact .inr ⟨by rw [hh]; exact hc,y,List.mem_cons_self,hh.symm⟩
     ·exact .inl hh
     ·exact .inr ⟨a,d,List.mem_cons_of_mem _ hd,b⟩
    ·rcases hh with hh | ⟨a,d,hd,b⟩
     ·exact .inl (.inr hh)
     ·rcases List.mem_cons.1 hd with rfl | hd
      ·exact .inl (.inl b.symm)
      ·exact .inr ⟨a,d,hd,b⟩
def OP (k : ByteArray) (ls : List Ih) : Nat:=((ls.filter fun y=>decide (y.Club = k)).map fun y=>YK y.Points).sum
theorem EL (k : ByteArray) (y : Ih) (ls : List Ih) : OP k (y :: ls) = (if y.Club = k then YK y.Points else 0) + OP k ls:=by
 unfold OP
 by_cases h : y.Club = k
 ·rw [List.filter_cons_of_pos (by simpa using h),if_pos h,List.map_cons,List.sum_cons]
 ·rw [List.filter_cons_of_neg (by simpa using h),if_neg h,Nat.zero_add]
theorem LI (j : List (ByteArray × Ee) → Option (List Ej × Int)) (K : ByteArray → Prop) (hKe : ¬ K An) : ∀ (ys : List Ih) (i : Nat) (m : List (ByteArray × Ee)) (u : ByteArray → Nat) (B : Nat),MF m K u → (∀ y ∈ ys,y.Club ≠ An → K y.Club) → (∀ y ∈ ys,∃ v,v ≤ 6000 ∧ y.Points = fr v) → (∀ k,u k ≤ B) → B + 6000 * ys.length ≤ 1000000 →
  ∃ m',Nv j ys i m = j m' ∧ MF m' K (fun k=>u k + OP k ys)
 | [],i,m,u,B,h,_,_,_,_=>⟨m,rfl,h.congr (fun _=>Iff.rfl) fun _ _=>rfl⟩
 | y :: ys,i,m,u,B,h,h1,h2,h3,h4=>by
  simp only [List.length_cons] at h4
  obtain ⟨v,hv,e⟩:=h2 y List.mem_cons_self
  have hval : YK y.Points = v:=by rw [e,UQ]
  have h1' : ∀ z ∈ ys,z.Club ≠ An → K z.Club:=fun z hz=>h1 z (List.mem_cons_of_mem _ hz)
  have h2' : ∀ z ∈ ys,∃ v,v ≤ 6000 ∧ z.Points = fr v:=fun z hz=>h2 z (List.mem_cons_of_mem _ hz)
  rw [Nv]
  simp only [Og]
  by_cases hc : y.Club = An
  ·rw [if_neg (by simp [hc])]
   obtain ⟨m',e',g⟩:=LI j K hKe ys (i + 1) m u B h h1' h2' h3 (by omega)
   refine ⟨m',e',g.congr (fun _=>Iff.rfl) fun k hk=>?_⟩
   rw [EL,if_neg (fun e=>hKe (by rw [← hc,e]; exact hk)),Nat.zero_add]
  ·have hK:=h1 y List.mem_cons_self hc
   have hu:=h3 y.Club
   rw [if_pos (by simpa using hc),h.vals _ hK,e,add_frM (by omega) (by omega)]
   simp only [Option.bind_some]
   have h5:=(h.put y.Club (u y.Club + v)).congr (K':=K) (u':=fun z=>if z = y.Club then u y.Club + v else u z) (fun k=>⟨fun hh=>hh.elim (fun e=>by rw [e]; exact hK) id,.inr⟩) fun _ _=>rfl
   obtain ⟨m',e',g⟩:=LI j K hKe ys (i + 1) _ _ (B + 6000) h5 h1' h2' (fun k=>by
    have:=h3 k
    split <;> omega) (by omega)
   refine ⟨m',e',g.congr (fun _=>Iff.rfl) fun k _=>?_⟩
   rw [EL,hval]
   by_cases hk : k = y.Club
   ·rw [if_pos hk,if_pos hk.symm,hk]; omega
   ·rw [if_neg hk,if_neg (fun e=>hk e.symm)]; omega
theorem UT (k : ByteArray) : ∀ (ls : List Ih),(∀ y ∈ ls,∃ v,v ≤ 6000 ∧ y.Points = fr v) → OP k ls ≤ 6000 * ls.length
 | [],_=>by simp [OP]
 | y :: ls,h=>by
  have ih:=UT k ls fun z hz=>h z (List.mem_cons_of_mem _ hz)
  obtain ⟨v,hv,e⟩:=h y List.mem_cons_self
  rw [EL,e,UQ]
  simp only [List.length_cons]
  split <;> omega
theorem ND (k : ByteArray) : ∀ (ls : List Ih),(∀ y ∈ ls,y.Club ≠ k) → OP k ls = 0
 | [],_=>rfl
 | y :: ls,h=>by rw [EL,if_neg (h y List.mem_cons_self),ND k ls fun z hz=>h z (List.mem_cons_of_mem _ hz)]
def UU (p : Kq) (F : List Dx) (k : ByteArray) (ys : List Em) : Nat:=(ys.map fun r=>OP k (Yr p F r)).sum
theorem WG (p : Kq) {F : List Dx} (h : FG F) (r : Em) : (Yr p F r).length ≤ 4:=by
 unfold Yr
 rw [List.length_map]
 exact KY h r.Key
theorem RB {p : Kq} (hp : Zo p) {F : List Dx} (h : FG F) (j : List (ByteArray × Ee) → Option (List Ej × Int)) : ∀ (ys : List Em) (i : Nat) (m : List (ByteArray × Ee)) (K : ByteArray → Prop) (u : ByteArray → Nat) (B : Nat),(∀ r ∈ ys,r ∈ p.Races) → MF m K u → (∀ k,k ≠ An → ¬ K k → u k = 0) → ¬ K An → (∀ k,u k ≤ B) → B + 24000 * ys.length ≤ 900000 →
  ∃ m',Nd p F j ys i m = j m' ∧ MF m' (fun k=>K k ∨ (k ≠ An ∧ ∃ r ∈ ys,∃ d ∈ DU r.Key F,d.Club = k)) (fun k=>u k + UU p F k ys)
 | [],i,m,K,u,B,_,hm,_,_,_,_=>⟨m,rfl,hm.congr (fun k=>⟨.inl,fun h=>h.elim id fun ⟨_,r,hr,_⟩=>absurd hr (by simp)⟩) fun _ _=>rfl⟩
 | y :: ys,i,m,K,u,B,hy,hm,h0,hKe,hB,hb=>by
  simp only [List.length_cons] at hb
  have hr:=hy y List.mem_cons_self
  have hll:=WG p h y
  rw [Nd,SK h]
  simp only [Option.bind_some,Og]
  have hline : ∀ z ∈ Yr p F y,∃ v,v ≤ 6000 ∧ z.Points = fr v:=fun z hz=>by
   obtain ⟨d,hd,_,_,_,_,_,hv⟩:=US hp h hr hz
   exact hv
  have hclub : ∀ z ∈ Yr p F y,∃ d ∈ DU y.Key F,z.Club = d.Club:=fun z hz=>by
   obtain ⟨d,hd,_,e,_⟩:=US hp h hr hz
   exact ⟨d,(EJ h hd).1,e⟩
  obtain ⟨m1,e1,g1⟩:=HK (fun (x2 : List (ByteArray × Ee))=>Option.bind (Pn p F y) (fun r3=>if !decide (r3.2 = 0) then some (([] : List Ej),r3.2) else Nv (fun x5=>Nd p F j ys (i + 1) x5) r3.1 0 x2)) (DU y.Key F) 0 m K u hm h0
  rw [e1,(LH hp h hr).1]
  simp only [Option.bind_some,decide_true,Bool.not_true,Bool.false_eq_true,if_false]
  have hKe1 : ¬ (K An ∨ (An ≠ An ∧ ∃ d ∈ DU y.Key F,d.Club = An)):=fun hh=>hh.elim hKe fun ⟨a,_⟩=>a rfl
  obtain ⟨m2,e2,g2⟩:=LI (fun x5=>Nd p F j ys (i + 1) x5) _ hKe1 (Yr p F y) 0 m1 u B g1 (fun z hz hne=>by
   obtain ⟨d,hd,e⟩:=hclub z hz
   exact .inr ⟨hne,d,hd,e.symm⟩) hline hB (by omega)
  rw [e2]
  have hle : ∀ k,OP k (Yr p F y) ≤ 24000:=fun k=>Nat.le_trans (UT k _ hline) (by omega)
  obtain ⟨m3,e3,g3⟩:=RB hp h j ys (i + 1) m2 _ _ (B + 24000) (fun z hz=>hy z (List.mem_cons_of_mem _ hz)) g2 (fun k hk hn=>by
   have a1 : ¬ K k:=fun hh=>hn (.inl hh)
   rw [h0 k hk a1,ND k _ fun z hz e=>hn (.inr ⟨hk,by obtain ⟨d,hd,e'⟩:=hclub z hz; exact ⟨d,hd,e'.symm.trans e⟩⟩)]) hKe1 (fun k=>by have:=hB k; have:=hle k; omega) (by omega)
  refine ⟨m3,e3,g3.congr (fun k=>⟨fun hh=>?_,fun hh=>?_⟩) fun k _=>?_⟩
  ·rcases hh with (hh | ⟨a,d,hd,b⟩) | ⟨a,r,hr',d,hd,b⟩
   ·exact .inl hh
   ·exact .inr ⟨a,y,List.mem_cons_self,d,hd,b⟩
   ·exact .inr ⟨a,r,List.mem_cons_of_mem _ hr',d,hd,b⟩
  ·rcases hh with hh | ⟨a,r,hr',d,hd,b⟩
   ·exact .inl (.inl hh)
   ·rcases List.mem_cons.1 hr' with rfl | hr'
    ·exact .inl (.inr ⟨a,d,hd,b⟩)
    ·exact .inr ⟨a,r,hr',d,hd,b⟩
  ·unfold UU
   rw [List.map_cons,List.sum_cons]
   omega
theorem RC (j : List Ej → Option (List Ej × Int)) : ∀ (p : List (ByteArray × Ee)) (x : List Ej),x.length + p.length ≤ 1000000 → Nw j p x = j (x ++ p.map fun e=>Ej.mk e.1 e.2)
 | [],x,_=>by simp [Nw]
 | y :: p,x,h=>by
  simp only [List.length_cons] at h
  rw [Nw,Gn (by unfold Sq; exact decide_eq_true (by omega))]
  simp only [Option.bind_some]
  rw [RC j p (x ++ [Ej.mk y.1 y.2]) (by simp; omega)]
  simp
theorem YM {p : Kq} (hp : Zo p) {F : List Dx} (h : FG F) : ∃ m,MF m (fun k=>k ≠ An ∧ ∃ r ∈ p.Races,∃ d ∈ DU r.Key F,d.Club = k) (fun k=>UU p F k p.Races) ∧ m.length ≤ 2 ∧ Uy p F = some (Pv FY (m.map fun e=>Ej.mk e.1 e.2),0):=by
 have hfew:=hp.few
 obtain ⟨m,e,g⟩:=RB hp h (fun x1=>RD x1 (fun p=>Nw (fun x8=>Option.bind (Jf x8) (fun r5=>some (r5,0))) p ([] : List Ej))) p.Races 0 [] (fun _=>False) (fun _=>0) 0 (fun _ hr=>hr) ⟨by simp,fun k=>by simp,fun _ hk=>hk.elim⟩ (fun _ _ _=>rfl) (fun hh=>hh) (fun _=>by omega) (by omega)
 have g':=g.congr (K':=fun k=>k ≠ An ∧ ∃ r ∈ p.Races,∃ d ∈ DU r.Key F,d.Club = k) (u':=fun k=>UU p F k p.Races) (fun k=>by simp) fun k _=>by simp
 have hlen : m.length ≤ 2:=by
  have:=KV (m.map (·.1)) [Uv,FA] g'.nd fun k hk=>by
   obtain ⟨a,r,_,d,hd,b⟩:=(g'.keys k).1 hk
   obtain ⟨_,k2,k3⟩:=HG hd
   have hc:=UO h k3 k2
   rw [b] at hc
   simp only [List.mem_cons,List.not_mem_nil,or_false] at hc ⊢
   rcases hc with hc | hc | hc
   ·exact .inl hc
   ·exact .inr hc
   ·exact absurd hc a
  rw [List.length_map] at this
  exact this
 refine ⟨m,g',hlen,?_⟩
 unfold Uy
 rw [all_ok hp h]
 simp only [Option.bind_some,decide_true,Bool.not_true,Bool.false_eq_true,if_false,Og]
 rw [e]
 refine SQ fun q hq=>?_
 have hql : q.length = m.length:=hq.length_eq
 rw [RC _ q [] (by simp; omega),List.nil_append,WE _ (by rw [List.length_map]; omega)]
 simp only [Option.bind_some]
 have hk : ∀ l : List (ByteArray × Ee),(l.map fun e=>Ej.mk e.1 e.2).map (·.Key) = l.map (·.1):=fun l=>by rw [List.map_map]; rfl
 have hp' : (q.map fun e=>Ej.mk e.1 e.2).Perm (m.map fun e=>Ej.mk e.1 e.2):=hq.map _
 congr 2
 exact HC YL LE _ _ (QZ (by rw [hk]; exact (hq.map (·.1)).nodup_iff.2 g'.nd)) (AY LE _ (QZ (by rw [hk]; exact g'.nd))) fun x=>by rw [hp'.mem_iff]; exact (Xt _ _ _).symm
theorem YN {p : Kq} (hp : Zo p) {l : List Dx} (h : LG l) (a : Int) (hm : Iz a = true) : Zg p l a = Uy p (Xv l a):=by
 have ho:=UP hp h [] a (by simpa using hm) (by simp)
 rw [List.nil_append] at ho
 unfold Zg
 rw [ho]
 simp only [Option.bind_some,decide_true,Bool.not_true,Bool.false_eq_true,if_false]
 cases Uy p (Xv l a) <;> rfl
end Go.Proofs.YtancihamhcdboaaGreatDoor
namespace Go.Proofs.YtancihamhcdboaaGreatDoor
open Go
theorem YO : We = some true:=by decide +kernel
end Go.Proofs.YtancihamhcdboaaGreatDoor
namespace Go.Proofs.YtancihamhcdboaaGreatDoor
open Go
theorem HL {α R : Type} (z : α) (j : List α → Option R) (F : List α → Nat → List α → Option R) (h0 : ∀ i x,F [] i x = j x) (h1 : ∀ y ys i x,F (y :: ys) i x = Chk (inB (i : Int) x.length) (F ys (i + 1) (x.set ((i : Int).toNat) z))) :
  ∀ (ys : List α) (i : Nat) (x : List α),i + ys.length ≤ x.length → ∃ x',F ys i x = j x'
 | [],i,x,_=>⟨x,h0 i x⟩
 | y :: ys,i,x,h=>by
  simp only [List.length_cons] at h
  obtain ⟨x',e⟩:=HL z j F h0 h1 ys (i + 1) (x.set ((i : Int).toNat) z) (by simp; omega)
  exact ⟨x',by rw [h1,Gn (Ju.2 (by omega)),e]⟩
theorem eqDeedM (l : List Dx) : Sg l l = some true:=by
 unfold Sg
 rw [if_neg (by simp),Og]
 exact eq_l l (Lu l (some true)) (fun _=>rfl) (fun _ _ _=>rfl) l [] rfl
theorem eqRaceM (l : List Em) : Sf l l = some true:=by
 unfold Sf
 rw [if_neg (by simp),Og]
 exact eq_l l (Lt l (some true)) (fun _=>rfl) (fun _ _ _=>rfl) l [] rfl
theorem eqIntM (l : List Int) : Td l l = some true:=by
 unfold Td
 rw [if_neg (by simp),Og]
 exact eq_l l (Me l (some true)) (fun _=>rfl) (fun _ _ _=>rfl) l [] rfl
theorem plain_MeetsStay (l : List Int) (hl : l.length ≤ 9223372036854775807) : Sw l = some true:=by
 have hL : HD l:=by unfold HD; omega
 obtain ⟨p,a1,e1,p1,q1,hp⟩:=YD hL (a:=0) (by omega) (by omega)
 obtain ⟨x,a3,e3,p3,q3,x1,x2,x3⟩:=VW hL 12 (by omega) (by omega) (a:=a1) (by omega) (by omega)
 have hx : x.length ≤ 12:=by omega
 have hG : LG x:=LG.of x2 x3 (by omega)
 have hm : Iz 60 = true:=by decide
 have hmg:=QE x2 hx (List.Sublist.refl _) (List.nil_sublist x) fun s hs=>.inl hs
 obtain ⟨y1,s1⟩:=HL (Dx.mk An 0 0 0 An An An 0 0 An 0) (fun x=>some x) (Jy fun x=>some x) (fun _ _=>rfl) (fun _ _ _ _=>rfl) x 0 x (by omega)
 obtain ⟨m,_,_,hc⟩:=YM hp (hG.facts 60)
 rw [← YN hp hG 60 hm] at hc
 generalize hC : Pv FY (m.map fun e=>Ej.mk e.1 e.2) = C at hc
 obtain ⟨y2,s2⟩:=HL (Ej.mk An (Ee.mk 0 0)) (fun x=>some x) (Jn fun x=>some x) (fun _ _=>rfl) (fun _ _ _ _=>rfl) C 0 C (by omega)
 have loop : ∀ (j : Option Bool) (ys : List Em) (i : Nat),(∀ r ∈ ys,r ∈ p.Races) → Jo (p,a1) (x,a3) j ys i = j:=by
  intro j ys
  induction ys with
  | nil=>intro i _; rfl
  | cons r ys ih =>
   intro i hr
   have e:=(LH hp (hG.facts 60) (hr r List.mem_cons_self)).1
   rw [← SO hp hG (hr r List.mem_cons_self) 60 hm] at e
   obtain ⟨y3,s3⟩:=HL (Ih.mk 0 An An 0 0 (Ee.mk 0 0)) (fun x=>some x) (Kb fun x=>some x) (fun _ _=>rfl) (fun _ _ _ _=>rfl) (Yr p (Xv x 60) r) 0 (Yr p (Xv x 60) r) (by omega)
   rw [Jo,e]
   simp only [Option.bind_some]
   unfold Se
   rw [Og,s3]
   simp only [Option.bind_some]
   exact ih (i + 1) fun z hz=>hr z (List.mem_cons_of_mem _ hz)
 unfold Sw
 rw [e1]; simp only [Option.bind_some]
 rw [e3]; simp only [Option.bind_some]
 rw [hmg]; simp only [Option.bind_some]
 unfold Sc
 rw [Og,s1]; simp only [Option.bind_some,Og]
 rw [loop _ p.Races 0 fun _ hr=>hr,hc]
 simp only [Option.bind_some]
 unfold Rs
 rw [Og,s2]; simp only [Option.bind_some]
 rw [eqRaceM]
 simp only [Option.bind_some,if_true,eqIntM,Bool.and_self,eqDeedM,YO]
end Go.Proofs.YtancihamhcdboaaGreatDoor
