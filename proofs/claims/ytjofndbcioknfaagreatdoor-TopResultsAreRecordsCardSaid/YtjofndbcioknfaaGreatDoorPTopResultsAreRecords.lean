/- The plain law of TopResultsAreRecords. No program stands here but its twins. -/
import Derived.Test.YtjofndbcioknfaaGreatDoorPPlan
import Derived.Test.YtjofndbcioknfaaGreatDoorPMeetSort
/- Ranks that the stream gives pass the program's check. No program stands here but its twins. -/
namespace Go.Proofs.YtjofndbcioknfaaGreatDoor
open Go
def YC (g : List Eh) : Prop:=∀ a x b,g = a ++ x :: b → 0 < x.Rank → x.Rank = (a.length : Int) + 1 ∨ ∃ d y,a = d ++ [y] ∧ y.Rank = x.Rank
structure GGd (race : ByteArray) (rel : Bool) (g : List Eh) : Prop where
 len : g.length ≤ 5
 row : ∀ x ∈ g,x.Race = race ∧ x.Relay = rel ∧ x.Who ∈ GX ∧ x.Club ∈ IK ∧ 0 ≤ x.Rank ∧ x.Rank ≤ 6
 asc : g.Pairwise fun x y=>EZ x y = true
 who : g.Pairwise fun x y=>x.Who ≠ y.Who
 rank : YC g
structure LGd (Gs : List (List Eh)) : Prop where
 grp : ∀ g ∈ Gs,g ≠ [] ∧ ∃ race rel,race ∈ KX ∧ GGd race rel g
 diff : Gs.Pairwise fun g g'=>∀ x ∈ g,∀ y ∈ g',cB x.Race y.Race < 0
 len : Gs.flatten.length ≤ 15
theorem LGd.one {Gs : List (List Eh)} (h : LGd Gs) : ∀ g ∈ Gs,One g ∧ g.length ≤ 5:=fun g hg=>by
 obtain ⟨h1,race,rel,_,h2⟩:=h.grp g hg
 exact ⟨⟨h1,fun x hx y hy=>by rw [(h2.row x hx).1,(h2.row y hy).1]⟩,h2.len⟩
theorem LGd.ne {Gs : List (List Eh)} (h : LGd Gs) : Gs.Pairwise fun g g'=>∀ x ∈ g,∀ y ∈ g',x.Race ≠ y.Race :=
 h.diff.imp fun hd x hx y hy e=>by have:=hd x hx y hy; rw [e,Ud] at this; omega
theorem LGd.row {Gs : List (List Eh)} (h : LGd Gs) : ∀ x ∈ Gs.flatten,x.Race ∈ KX ∧ x.Who ∈ GX ∧ x.Club ∈ IK ∧ 0 ≤ x.Rank ∧ x.Rank ≤ 6:=fun x hx=>by
 obtain ⟨g,hg,hx⟩:=List.mem_flatten.1 hx
 obtain ⟨_,race,rel,hr,h2⟩:=h.grp g hg
 obtain ⟨r1,_,r3,r4,r5⟩:=h2.row x hx
 exact ⟨by rw [r1]; exact hr,r3,r4,r5⟩
theorem LGd.asc {Gs : List (List Eh)} (h : LGd Gs) : Gs.flatten.Pairwise fun x y=>EZ x y = true:=by
 rw [List.pairwise_flatten]
 refine ⟨fun g hg=>?_,h.diff.imp fun hd x hx y hy=>DV.2 (.inl (hd x hx y hy))⟩
 obtain ⟨_,race,rel,_,h2⟩:=h.grp g hg
 exact h2.asc
theorem LGd.who {Gs : List (List Eh)} (h : LGd Gs) : Gs.flatten.Pairwise fun x y=>¬ (x.Race = y.Race ∧ x.Who = y.Who):=by
 rw [List.pairwise_flatten]
 refine ⟨fun g hg=>?_,h.ne.imp fun hd x hx y hy e=>hd x hx y hy e.1⟩
 obtain ⟨_,race,rel,_,h2⟩:=h.grp g hg
 exact h2.who.imp fun hne e=>hne e.2
theorem keyP {s : ByteArray} (h : s ∈ KX ∨ s ∈ GX ∨ (s ∈ IK ∧ s ≠ An)) : Gy s = some true:=by
 simp only [KX,GX,IK,List.mem_cons,List.not_mem_nil,or_false] at h
 rcases h with (rfl | rfl | rfl) | (rfl | rfl | rfl | rfl | rfl) | ⟨rfl | rfl | rfl | rfl | rfl,hn⟩
 any_goals (decide +kernel)
 exact (hn rfl).elim
theorem QS {x y : Eh} (hx : 0 ≤ x.Rank ∧ x.Rank ≤ 6) (hy : 0 ≤ y.Rank ∧ y.Rank ≤ 6) (h : EZ x y = true) : Tg x y < 0:=by
 have hc : Ho x.Race y.Race = cB x.Race y.Race:=rfl
 have hw : Ho x.Who y.Who = cB x.Who y.Who:=rfl
 have hor : ∀ a b c : Int,Rt [a,b,c] = if a ≠ 0 then a else if b ≠ 0 then b else c:=fun a b c=>by
  unfold Rt
  simp only [Lf]
  rw [Mt,Mt,Mt,Mt]
  by_cases h1 : a = 0
  ·by_cases h2 : b = 0
   ·by_cases h3 : c = 0
    ·simp [h1,h2,h3]
    ·simp [h1,h2,h3]
   ·simp [h1,h2]
  ·simp [h1]
 have hk : Mi x.Rank y.Rank = kR x - kR y:=by
  have k1:=@XY x ⟨hx.1,by omega⟩
  have k2:=@XY y ⟨hy.1,by omega⟩
  unfold Mi
  simp only [Lf]
  have e : kR x - kR y = W (kR x - kR y):=(Pa (by omega) (by omega)).symm
  rw [e]
  unfold kR
  by_cases a : x.Rank = 0
  ·by_cases b : y.Rank = 0
   ·simp [a,b]
   ·simp [a,b]
  ·by_cases b : y.Rank = 0
   ·simp [a,b]
   ·simp [a,b]
 unfold Tg
 rw [hc,hw,hk,hor]
 rw [DV] at h
 rcases h with h | ⟨e,h⟩
 ·rw [if_pos (by omega)]; exact h
 ·rw [e,Ud,if_neg (by simp)]
  rcases h with h | ⟨k,h⟩
  ·rw [if_pos (by omega)]; omega
  ·rw [if_neg (by omega)]; exact h
theorem UJ (j : List (Ge × Bool) → Option Int) (l : List Eh) (hw : l.Pairwise fun x y=>¬ (x.Race = y.Race ∧ x.Who = y.Who)) : ∀ (ys dn : List Eh) (m : List (Ge × Bool)),l = dn ++ ys → (∀ e,Et m e false = true → ∃ x ∈ dn,e = Ge.mk x.Race x.Who) →
  ∃ m',Mc j ys dn.length m = j m'
 | [],dn,m,_,_=>⟨m,rfl⟩
 | y :: ys,dn,m,h1,h2=>by
  have hno : Et m (Ge.mk y.Race y.Who) false = false:=by
   cases hm : Et m (Ge.mk y.Race y.Who) false with
   | false=>rfl
   | true =>
    obtain ⟨x,hx,e⟩:=h2 _ hm
    rw [h1,List.pairwise_append] at hw
    injection e with e1 e2
    exact (hw.2.2 x hx y List.mem_cons_self ⟨e1.symm,e2.symm⟩).elim
  rw [Mc,hno,if_neg (by simp)]
  obtain ⟨m',e⟩:=UJ j l hw ys (dn ++ [y]) (Hj m (Ge.mk y.Race y.Who) true) (by rw [h1]; simp) (fun e he=>by
   rw [Yl] at he
   split at he
   ·rename_i hk; exact ⟨y,by simp,hk⟩
   ·obtain ⟨x,hx,e'⟩:=h2 e he; exact ⟨x,by simp [hx],e'⟩)
  rw [List.length_append,List.length_singleton] at e
  exact ⟨m',e⟩
theorem UK (g : List Eh) (g0 : Eh) (hg0 : nth g 0 = g0) (hin : inB 0 g.length = true) : ∀ (ys : List Eh) (i : Nat),(∀ y ∈ ys,y.Relay = g0.Relay) → Gj g (some (-1)) ys i = some (-1)
 | [],_,_=>rfl
 | y :: ys,i,h=>by
  rw [Gj]
  unfold Tx
  rw [Gi hin,hg0,h y List.mem_cons_self]
  simp only [decide_true,Bool.not_true,Option.bind_some,Bool.false_eq_true,if_false]
  exact UK g g0 hg0 hin ys (i + 1) fun z hz=>h z (List.mem_cons_of_mem _ hz)
theorem QT (j : Option Int) : ∀ (Gs : List (List Eh)) (i : Nat),(∀ g ∈ Gs,g ≠ [] ∧ ∃ race rel,race ∈ KX ∧ GGd race rel g) → Lh j Gs i = j
 | [],_,_=>rfl
 | g :: Gs,i,h=>by
  obtain ⟨h1,race,rel,_,h2⟩:=h g List.mem_cons_self
  rw [Lh]
  unfold Ki Ku
  simp only [Lf]
  have hp:=List.length_pos_iff.2 h1
  have hin : inB 0 g.length = true:=Kb.2 (by omega)
  have hm : nth g 0 ∈ g:=List.mem_of_getElem? (Es hin).1
  rw [UK g (nth g 0) rfl hin g 0 fun y hy=>by rw [(h2.row y hy).2.1,(h2.row _ hm).2.1]]
  simp only [Option.bind_some]
  rw [if_neg (by simp)]
  exact QT j Gs (i + 1) fun g' h'=>h g' (List.mem_cons_of_mem _ h')
theorem QU (g : List Eh) (hr : YC g) (hl : g.length ≤ 5) (j : Option Int) : ∀ (ys dn : List Eh),g = dn ++ ys → Md g j ys dn.length = j
 | [],_,_=>rfl
 | y :: ys,dn,h=>by
  have hdl : dn.length ≤ 5:=by rw [h] at hl; simp at hl; omega
  have ih:=QU g hr hl j ys (dn ++ [y]) (by rw [h]; simp)
  rw [List.length_append,List.length_singleton] at ih
  rw [Md]
  simp only [Lf]
  rw [Pa (by omega) (by omega)]
  by_cases hc : ((decide (0 < y.Rank)) && (!decide (y.Rank = ((dn.length : Int) + 1)))) = true
  ·rw [if_pos hc]
   simp only [Bool.and_eq_true,decide_eq_true_eq,Bool.not_eq_true',decide_eq_false_iff_not] at hc
   rcases hr dn y ys h hc.1 with h1 | ⟨d,p,e,h1⟩
   ·exact (hc.2 h1).elim
   ·subst e
    have hlen : ((d ++ [p]).length : Int) = (d.length : Int) + 1:=by simp
    have hn : nth g (d.length : Int) = p:=by
     have : g = d ++ p :: (y :: ys):=by rw [h]; simp
     rw [this]; exact Ym d p (y :: ys) rfl
    have hin : inB (d.length : Int) g.length = true:=Kb.2 (by rw [h]; simp; omega)
    have hz : decide (((d ++ [p]).length : Int) = 0) = false:=decide_eq_false (by omega)
    rw [hz,if_neg (by simp),hlen,show (d.length : Int) + 1 - 1 = (d.length : Int) by omega,Pa (by omega) (by omega),Gi hin,hn,h1]
    simp only [decide_true,Bool.not_true,Bool.or_self,Bool.and_false,Bool.false_eq_true,if_false]
    exact ih
  ·rw [if_neg hc]
   simp only [Bool.not_eq_true] at hc
   rw [if_neg (by rw [hc]; simp)]
   exact ih
theorem QV (j : Option Int) : ∀ (Gs : List (List Eh)) (i : Nat),(∀ g ∈ Gs,g ≠ [] ∧ ∃ race rel,race ∈ KX ∧ GGd race rel g) → Kp j Gs i = j
 | [],_,_=>rfl
 | g :: Gs,i,h=>by
  obtain ⟨h1,race,rel,_,h2⟩:=h g List.mem_cons_self
  rw [Kp]
  simp only [Lf]
  have:=QU g h2.rank h2.len (Kp j Gs (i + 1)) g [] rfl
  rw [List.length_nil] at this
  rw [this]
  exact QV j Gs (i + 1) fun g' h'=>h g' (List.mem_cons_of_mem _ h')
theorem QW (j : Option Int) : ∀ (Gs : List (List Eh)) (i : Nat),(∀ g ∈ Gs,g.length ≤ 5) → Li j Gs i = j
 | [],_,_=>rfl
 | g :: Gs,i,h=>by
  have hl:=h g List.mem_cons_self
  rw [Li]
  simp only [Lf]
  rw [Nd,if_neg (by simp; omega)]
  exact QW j Gs (i + 1) fun g' h'=>h g' (List.mem_cons_of_mem _ h')
theorem QX {Gs : List (List Eh)} (h : LGd Gs) : Sh Gs.flatten = some 0:=by
 unfold Sh
 simp only [Lf]
 have hlen:=h.len
 obtain ⟨m',e⟩:=UJ (fun _=>Option.bind (Tw Gs.flatten) (fun r1=>Lh (Kp (Li (some 0) r1 0) r1 0) r1 0)) Gs.flatten h.who Gs.flatten [] [] rfl (fun e he=>by simp [Et,Ut,Oi] at he)
 rw [List.length_nil] at e
 rw [e,QM Gs (fun g hg=>(h.one g hg).1) h.ne (by omega),Option.bind_some,QT _ Gs 0 h.grp,QV _ Gs 0 h.grp,QW _ Gs 0 fun g hg=>(h.one g hg).2]
theorem IM (l : List Eh) (hl : l.length ≤ 15) (hr : ∀ x ∈ l,x.Race ∈ KX ∧ x.Who ∈ GX ∧ x.Club ∈ IK ∧ 0 ≤ x.Rank ∧ x.Rank ≤ 6) (ha : l.Pairwise fun x y=>EZ x y = true) (j : Option Int) : ∀ (ys dn : List Eh),l = dn ++ ys → Kn l j ys dn.length = j
 | [],_,_=>rfl
 | y :: ys,dn,h=>by
  have ih:=IM l hl hr ha j ys (dn ++ [y]) (by rw [h]; simp)
  rw [List.length_append,List.length_singleton] at ih
  obtain ⟨r1,r2,r3,r4⟩:=hr y (by rw [h]; simp)
  have hdl : dn.length ≤ 15:=by rw [h] at hl; simp at hl; omega
  have k1:=keyP (.inl r1)
  have k2:=keyP (.inr (.inl r2))
  have hw : El y.Rank 0 300 = true:=by unfold El; simp; omega
  rw [Kn,k1]
  simp only [Lf,Option.bind_some,Bool.not_true,Bool.false_eq_true,if_false,k2,Bool.or_self,hw,Bool.false_or]
  have hclub : ∀ Z : Option Int,(if (!decide (y.Club = An)) = true then Option.bind (Gy y.Club) (fun r3=>if ((!decide (y.Club = An)) && (!r3)) = true then some 5 else Z) else if ((!decide (y.Club = An)) && true) = true then some 5 else Z) = Z:=by
   intro Z
   by_cases hc : y.Club = An
   ·simp [hc]
   ·rw [if_pos (by simp [hc]),keyP (.inr (.inr ⟨r3,hc⟩)),Option.bind_some,if_neg (by simp)]
  refine (hclub _).trans ?_
  rcases List.eq_nil_or_concat dn with rfl | ⟨d,x,rfl⟩
  ·rw [if_neg (by simp)]; simpa using ih
  ·simp only [List.concat_eq_append] at *
   have hlen : ((d ++ [x]).length : Int) = (d.length : Int) + 1:=by simp
   have hn : nth l (d.length : Int) = x:=by
    have : l = d ++ x :: (y :: ys):=by rw [h]; simp
    rw [this]; exact Ym d x (y :: ys) rfl
   have hin : inB (d.length : Int) l.length = true:=Kb.2 (by rw [h]; simp; omega)
   have hlt : EZ x y = true:=by
    rw [h,List.pairwise_append] at ha
    exact ha.2.2 x (by simp) y (by simp)
   have hneg:=QS (hr x (by rw [h]; simp)).2.2.2 r4 hlt
   rw [if_pos (decide_eq_true (by omega)),hlen,show (d.length : Int) + 1 - 1 = (d.length : Int) by omega,Pa (by omega) (by omega),Gi hin,hn,if_neg (by simp; omega)]
   exact ih
theorem VX {Gs : List (List Eh)} (h : LGd Gs) : Ru Gs.flatten = some 0:=by
 have hl:=h.len
 unfold Ru
 rw [if_neg (by simp only [decide_eq_true_eq]; omega)]
 simp only [Lf]
 have:=IM Gs.flatten hl h.row h.asc (Option.bind (Sh Gs.flatten) (fun r4=>some r4)) Gs.flatten [] rfl
 rw [List.length_nil] at this
 rw [this,QX h]; rfl
theorem both_ok {t : Nh} {Gs : List (List Eh)} (ht : MV t) (h : LGd Gs) : Th t Gs.flatten = some 0:=by
 unfold Th
 rw [QO ht,VX h]; rfl
end Go.Proofs.YtjofndbcioknfaaGreatDoor
/- Results of a race: who has Tb,the ranks,the points. Conditions: a right plan,right deeds with few names. No program stands here but its twins. -/
namespace Go.Proofs.YtjofndbcioknfaaGreatDoor
open Go
theorem OS : ∀ (l : List Ej) (i : Nat) (pt pr : Int) (z : Ej),z ∈ rkF i pt pr l → ∃ x ∈ l,z.Who = x.Who ∧ z.Time = x.Time ∧ z.Fault = x.Fault
 | [],_,_,_,_,h=>by cases h
 | x :: xs,i,pt,pr,z,h=>by
  rw [rkF] at h
  rcases List.mem_cons.1 h with rfl | h
  ·exact ⟨x,List.mem_cons_self,rfl,rfl,rfl⟩
  ·obtain ⟨y,hy,e⟩:=OS xs _ _ _ z h
   exact ⟨y,List.mem_cons_of_mem _ hy,e⟩
theorem UL : ∀ (l : List Ej) (i : Nat) (pt pr : Int),(rkF i pt pr l).map (·.Who) = l.map (·.Who)
 | [],_,_,_=>rfl
 | x :: xs,i,pt,pr=>by simp only [rkF,List.map_cons,UL xs]
def Rk2 (a b : Ej) : Prop:=a.Time ≤ b.Time ∧ a.Rank ≤ b.Rank ∧ (a.Rank = b.Rank ↔ a.Time = b.Time) ∧ (a.Time = b.Time → cB a.Who b.Who < 0)
theorem SH : ∀ (l : List Ej) (i : Nat) (pt pr : Int),l.Pairwise (fun a b=>EY a b = true) → (i = 0 ∨ (1 ≤ pr ∧ pr ≤ (i : Int) ∧ ∀ x ∈ l,pt ≤ x.Time)) →
  (∀ z ∈ rkF i pt pr l,1 ≤ z.Rank ∧ z.Rank ≤ (i : Int) + l.length ∧ (i = 0 ∨ (pt ≤ z.Time ∧ pr ≤ z.Rank ∧ (z.Rank = pr ↔ z.Time = pt)))) ∧ (rkF i pt pr l).Pairwise Rk2
 | [],_,_,_,_,_=>⟨fun z h=>absurd h (by simp [rkF]),by simp [rkF]⟩
 | x :: xs,i,pt,pr,hp,hi=>by
  rw [List.pairwise_cons] at hp
  have hle : ∀ y ∈ xs,x.Time ≤ y.Time ∧ (x.Time = y.Time → cB x.Who y.Who < 0):=fun y hy=>by
   have:=GU.1 (hp.1 y hy)
   omega
  have hx : i = 0 ∨ pt ≤ x.Time:=hi.imp id fun h=>h.2.2 x List.mem_cons_self
  generalize hr : (if decide (0 < (i : Int)) && decide (x.Time = pt) then pr else (i : Int) + 1) = r
  have hr' : rkF i pt pr (x :: xs) = Ej.mk x.Who r x.Time x.Fault :: rkF (i + 1) x.Time r xs:=by rw [rkF]; simp only [hr]
  have hrr : (0 < i ∧ x.Time = pt ∧ r = pr) ∨ (r = (i : Int) + 1 ∧ (i = 0 ∨ x.Time ≠ pt)):=by
   rw [← hr]
   by_cases h : 0 < i
   ·by_cases h2 : x.Time = pt
    ·left
     rw [if_pos (by simp [h,h2])]
     exact ⟨h,h2,rfl⟩
    ·right
     rw [if_neg (by simp [h2])]
     exact ⟨rfl,.inr h2⟩
   ·right
    rw [if_neg (by simp; omega)]
    exact ⟨rfl,.inl (by omega)⟩
  have hr1 : 1 ≤ r ∧ r ≤ (i : Int) + 1:=by
   rcases hrr with ⟨h1,_,h3⟩ | ⟨h1,_⟩
   ·rcases hi with h | ⟨h4,h5,_⟩ <;> omega
   ·omega
  obtain ⟨A,B⟩:=SH xs (i + 1) x.Time r hp.2 (.inr ⟨hr1.1,by push_cast; omega,fun y hy=>(hle y hy).1⟩)
  rw [hr']
  refine ⟨fun z hz=>?_,List.pairwise_cons.2 ⟨fun z hz=>?_,B⟩⟩
  ·rcases List.mem_cons.1 hz with rfl | hz
   ·refine ⟨hr1.1,by simp only [List.length_cons]; push_cast; omega,?_⟩
    rcases hi with h | ⟨h4,h5,h6⟩
    ·exact .inl h
    ·right
     have:=h6 x List.mem_cons_self
     simp only
     rcases hrr with ⟨h1,h2,h3⟩ | ⟨h1,h2⟩ <;> omega
   ·obtain ⟨a1,a2,a3⟩:=A z hz
    refine ⟨a1,by simp only [List.length_cons]; push_cast at a2 ⊢; omega,?_⟩
    rcases hi with h | ⟨h4,h5,h6⟩
    ·exact .inl h
    ·right
     have:=h6 x List.mem_cons_self
     rcases a3 with a3 | ⟨a3,a4,a5⟩
     ·omega
     ·rcases hrr with ⟨h1,h2,h3⟩ | ⟨h1,h2⟩ <;> omega
  ·obtain ⟨a1,a2,a3⟩:=A z hz
   obtain ⟨y,hy,y1,y2,_⟩:=OS xs _ _ _ z hz
   obtain ⟨l1,l2⟩:=hle y hy
   rcases a3 with a3 | ⟨a3,a4,a5⟩
   ·omega
   ·refine ⟨by simp only; omega,by simp only; omega,by simp only; omega,?_⟩
    simp only
    rw [y1]
    intro e
    exact l2 (by omega)
theorem OT : ∀ (l : List Ej) (i : Nat) (pt pr : Int) (a : List Ej) (x : Ej) (b : List Ej),rkF i pt pr l = a ++ x :: b → x.Rank = (i : Int) + a.length + 1 ∨ (a = [] ∧ x.Rank = pr ∧ 0 < i) ∨ ∃ d y,a = d ++ [y] ∧ y.Rank = x.Rank
 | [],i,pt,pr,a,x,b,h=>by simp [rkF] at h
 | z :: zs,i,pt,pr,a,x,b,h=>by
  rw [rkF] at h
  cases a with
  | nil =>
   simp only [List.nil_append,List.cons.injEq] at h
   rw [← h.1]
   show (if (decide (0 < (i : Int)) && decide (z.Time = pt)) = true then pr else (i : Int) + 1) = _ ∨ (_ ∧ (if (decide (0 < (i : Int)) && decide (z.Time = pt)) = true then pr else (i : Int) + 1) = pr ∧ _) ∨ ∃ d y,_ ∧ Ej.Rank y = (if (decide (0 < (i : Int)) && decide (z.Time = pt)) = true then pr else (i : Int) + 1)
   by_cases hc : (decide (0 < (i : Int)) && decide (z.Time = pt)) = true
   ·rw [if_pos hc]
    refine .inr (.inl ⟨rfl,rfl,?_⟩)
    simp at hc
    omega
   ·rw [if_neg hc]
    exact .inl (by simp)
  | cons a0 a =>
   simp only [List.cons_append,List.cons.injEq] at h
   rcases OT zs (i + 1) _ _ a x b h.2 with e | ⟨e1,e2,_⟩ | ⟨d,y,e1,e2⟩
   ·refine .inl ?_
    simp only [List.length_cons]
    push_cast at e ⊢
    omega
   ·refine .inr (.inr ⟨[],a0,by rw [e1]; rfl,?_⟩)
    rw [← h.1,e2]
   ·exact .inr (.inr ⟨a0 :: d,y,by rw [e1]; rfl,e2⟩)
def swS (race : ByteArray) (m : List (ByteArray × Eg)) (y : Eg) : List (ByteArray × Eg):=if decide (y.Race = race) && decide (y.Kind = 3) then Hj m y.Who y else m
def swM (race : ByteArray) (l : List Eg) : List (ByteArray × Eg):=l.foldl (swS race) []
theorem SI (race : ByteArray) : ∀ (ys : List Eg) (i : Nat) (m : List (ByteArray × Eg)),Po race (fun x=>x) ys i m = ys.foldl (swS race) m
 | [],_,m=>rfl
 | y :: ys,i,m=>by
  rw [Po]
  simp only [Oj,List.foldl_cons]
  unfold swS
  cases hc : (decide (y.Race = race) && decide (y.Kind = 3)) with
  | true=>rw [if_pos rfl,if_pos rfl]; exact SI race ys (i + 1) _
  | false=>rw [if_neg (by simp),if_neg (by simp)]; exact SI race ys (i + 1) _
theorem swum_is (p : Ni) (l : List Eg) (race : ByteArray) : Iy p l race = swM race l:=by
 unfold Iy
 rw [Oj]
 exact SI race l 0 []
theorem swM_get {race : ByteArray} {l : List Eg} {w : ByteArray} {y : Eg} (h : Ut (swM race l) w = some y) : y ∈ l ∧ y.Kind = 3 ∧ y.Race = race ∧ y.Who = w:=by
 have key : ∀ (ys : List Eg) (m : List (ByteArray × Eg)),(∀ z ∈ ys,z ∈ l) → (∀ w y,Ut m w = some y → y ∈ l ∧ y.Kind = 3 ∧ y.Race = race ∧ y.Who = w) → ∀ w y,Ut (ys.foldl (swS race) m) w = some y → y ∈ l ∧ y.Kind = 3 ∧ y.Race = race ∧ y.Who = w:=by
  intro ys
  induction ys with
  | nil=>intro m _ h; exact h
  | cons z ys ih =>
   intro m hz hm
   rw [List.foldl_cons]
   refine ih _ (fun u hu=>hz u (List.mem_cons_of_mem _ hu)) fun w y hy=>?_
   unfold swS at hy
   split at hy
   ·rename_i hc
    simp only [Bool.and_eq_true,decide_eq_true_eq] at hc
    have e : Ut (Hj m z.Who z) w = if w = z.Who then some z else Ut m w:=GR z.Who w z m 0
    rw [e] at hy
    split at hy
    ·rename_i hw
     obtain rfl:=Option.some.inj hy
     exact ⟨hz z List.mem_cons_self,hc.2,hc.1,hw.symm⟩
    ·exact hm w y hy
   ·exact hm w y hy
 exact key l [] (fun _ h=>h) (fun w y h=>by simp [Ut,Oi] at h) w y h
structure FG (F : List Eg) : Prop where
 ok : ∀ d ∈ F,DG d ∧ d.Who ∈ GY ∧ d.Club ∈ Zu
 len : F.length ≤ 40
theorem QY {α : Type} [DecidableEq α] : ∀ (l l' : List α),l.Nodup → (∀ x ∈ l,x ∈ l') → l.length ≤ l'.length
 | [],_,_,_=>Nat.zero_le _
 | x :: l,l',h,hm=>by
  rw [List.nodup_cons] at h
  have hx:=hm x List.mem_cons_self
  have:=QY l (l'.erase x) h.2 fun y hy=>(List.mem_erase_of_ne (fun e=>h.1 (by rw [← e]; exact hy))).2 (hm y (List.mem_cons_of_mem _ hy))
  rw [List.length_erase_of_mem hx] at this
  have:=List.length_pos_of_mem hx
  simp only [List.length_cons]
  omega
theorem IA {F : List Eg} (h : FG F) {d : Eg} (hd : d ∈ F) (hk : d.Kind ≠ 4) : d.Who ∈ [Xm,AR,AS,AU] ∧ Gy d.Who = some true ∧ Gy d.Race = some true:=by
 obtain ⟨g,n,_⟩:=h.ok d hd
 obtain ⟨h1,h2⟩:=g.who hk
 have e0 : Gy An = some false:=by decide +kernel
 refine ⟨?_,h1,h2⟩
 unfold GY at n
 simp only [List.mem_cons,List.not_mem_nil,or_false] at n ⊢
 rcases n with n | n | n | n | n
 ·exact .inl n
 ·exact .inr (.inl n)
 ·exact .inr (.inr (.inl n))
 ·exact .inr (.inr (.inr n))
 ·rw [n,e0] at h1; cases h1
theorem fg_club {F : List Eg} (h : FG F) {d : Eg} (hd : d ∈ F) (hk : d.Kind = 1) : d.Club ∈ [Wj,FZ,An]:=by
 obtain ⟨g,_,n⟩:=h.ok d hd
 have eA : Gy k_A = some false:=by decide +kernel
 have hAe : k_A ≠ An:=by decide +kernel
 unfold Zu at n
 simp only [List.mem_cons,List.not_mem_nil,or_false] at n ⊢
 rcases n with h1 | h1 | h1 | h1
 ·exact .inl h1
 ·exact .inr (.inl h1)
 ·exact .inr (.inr h1)
 ·rcases g.club hk with h2 | h2
  ·exact absurd (h1.symm.trans h2) hAe
  ·rw [h1,eA] at h2; cases h2
theorem JM {F : List Eg} (h : FG F) (race : ByteArray) : (LQ race F).length ≤ 4:=by
 have ho:=UB race F
 have:=QY ((LQ race F).map (·.1)) [Xm,AR,AS,AU] ho.nd fun x hx=>by
  obtain ⟨p,hp,rfl⟩:=List.mem_map.1 hx
  obtain ⟨e1,_,e3,e4⟩:=ho.is p hp
  rw [e1]
  exact (IA h e4 (by omega)).1
 rw [List.length_map] at this
 exact this
theorem YD {F : List Eg} (h : FG F) (p : Ni) (race : ByteArray) : Ss p F race = some (KS race F):=SF p F race (by have:=JM h race; omega)
def D0 : Eg:=Eg.mk An 0 0 0 An An An 0 0 An 0
def SJ (race : ByteArray) (F : List Eg) (d : Eg) : Bool:=(Ut (swM race F) d.Who).isSome
def svS (race : ByteArray) (F : List Eg) (d : Eg) : Eg:=Et (swM race F) d.Who D0
def Tb (race : ByteArray) (F : List Eg) : List Eg:=(KS race F).filter (SJ race F)
def Px (race : ByteArray) (F : List Eg) (H : List Eg) : List Kq:=H.map fun d=>Kq.mk d.Who (svS race F d).Time
def BJ (race : ByteArray) (F : List Eg) (H : List Eg) : List Jm:=(H.filter fun d=>decide (0 < (svS race F d).Fault)).map fun d=>Jm.mk d.Who (svS race F d).Fault []
def Yw (H : List Eg) (m : List (ByteArray × ByteArray)) : List (ByteArray × ByteArray):=H.foldl (fun m d=>Hj m d.Who d.Club) m
theorem EJ (p : Ni) (F : List Eg) (race : ByteArray) (j : List Jm → List Kq → List (ByteArray × ByteArray) → Option (List Ej × List (ByteArray × ByteArray) × Int)) : ∀ (ys : List Eg) (i : Nat) (v : List Jm) (q : List Kq) (c : List (ByteArray × ByteArray)),v.length + ys.length ≤ 1000 → q.length + ys.length ≤ 1000 →
  Nk p F race j ys i v q c = j (v ++ BJ race F (ys.filter (SJ race F))) (q ++ Px race F (ys.filter (SJ race F))) (Yw (ys.filter (SJ race F)) c)
 | [],i,v,q,c,_,_=>by simp [Nk,BJ,Px,Yw]
 | y :: ys,i,v,q,c,h1,h2=>by
  simp only [List.length_cons] at h1 h2
  rw [Nk]
  simp only [Oj,swum_is]
  have hh : SJ race F y = (Ut (swM race F) y.Who).isSome:=rfl
  have hs : Et (swM race F) y.Who (Eg.mk An 0 0 0 An An An 0 0 An 0) = svS race F y:=rfl
  rw [hs]
  cases hc : (Ut (swM race F) y.Who).isSome with
  | false =>
   rw [if_pos (by simp),List.filter_cons_of_neg (by rw [hh,hc]; simp)]
   exact EJ p F race j ys (i + 1) v q c (by omega) (by omega)
  | true =>
   rw [if_neg (by simp),Gi (by unfold Sb; exact decide_eq_true (by omega)),List.filter_cons_of_pos (by rw [hh,hc])]
   by_cases hf : 0 < (svS race F y).Fault
   ·rw [if_pos (decide_eq_true hf),Gi (by unfold Sb; exact decide_eq_true (by omega)),EJ p F race j ys (i + 1) _ _ _ (by simp; omega) (by simp; omega)]
    unfold BJ Px Yw
    rw [List.filter_cons_of_pos (by simpa using hf)]
    simp
   ·rw [if_neg (by simpa using hf),EJ p F race j ys (i + 1) v _ _ (by omega) (by simp; omega)]
    unfold BJ Px Yw
    rw [List.filter_cons_of_neg (by simpa using hf)]
    simp
theorem EK {F : List Eg} (h : FG F) {race : ByteArray} {d : Eg} (hd : d ∈ Tb race F) : d ∈ KS race F ∧ (svS race F d ∈ F ∧ (svS race F d).Kind = 3 ∧ (svS race F d).Race = race ∧ (svS race F d).Who = d.Who) ∧ (0 ≤ (svS race F d).Time ∧ (svS race F d).Time ≤ 360000) ∧ (0 ≤ (svS race F d).Fault ∧ (svS race F d).Fault ≤ 8):=by
 obtain ⟨h1,h2⟩:=List.mem_filter.1 hd
 unfold SJ at h2
 obtain ⟨y,hy⟩:=Option.isSome_iff_exists.1 h2
 have e : svS race F d = y:=by unfold svS Et; rw [hy]; rfl
 have g:=swM_get hy
 rw [e]
 have gd:=(h.ok y g.1).1
 exact ⟨h1,g,gd.time (.inr g.2.1),gd.fault g.2.1⟩
theorem EL (race : ByteArray) (F : List Eg) : (Tb race F).Pairwise fun a b=>cB a.Who b.Who < 0:=((entL_up race F).sublist List.filter_sublist).imp fun {a b} h=>by
 rw [KR,decide_eq_true_eq] at h
 exact h
theorem KZ {F : List Eg} (h : FG F) (race : ByteArray) : (Tb race F).length ≤ 4:=by
 have h1:=List.length_filter_le (SJ race F) (KS race F)
 have h2:=JM h race
 rw [KV] at h1
 unfold Tb
 omega
def Zi (race : ByteArray) (F : List Eg) (w : ByteArray) : Int:=Et (Zy (BJ race F (Tb race F)) []) w 0
theorem MY (V : List Jm) (m : List (ByteArray × Int)) (w : ByteArray) (h : ∀ v ∈ V,v.Who ≠ w) : Et (Zy V m) w 0 = Et m w 0:=by
 unfold Zy
 induction V generalizing m with
 | nil=>rfl
 | cons v V ih =>
  rw [List.foldl_cons,ih _ fun u hu=>h u (List.mem_cons_of_mem _ hu),Yl,if_neg fun e=>h v List.mem_cons_self e.symm]
theorem VY (V : List Jm) (m : List (ByteArray × Int)) (v : Jm) (hv : v ∈ V) (hp : (V.map (·.Who)).Nodup) : Et (Zy V m) v.Who 0 = v.Fault:=by
 induction V generalizing m with
 | nil=>cases hv
 | cons u V ih =>
  simp only [List.map_cons,List.nodup_cons] at hp
  have e : Zy (u :: V) m = Zy V (Hj m u.Who u.Fault):=rfl
  rw [e]
  rcases List.mem_cons.1 hv with rfl | hv
  ·rw [MY V _ v.Who fun z hz e=>hp.1 (by rw [← e]; exact List.mem_map_of_mem hz),Yl,if_pos rfl]
  ·exact ih _ hv hp.2
theorem fltS_is {F : List Eg} (h : FG F) {race : ByteArray} {d : Eg} (hd : d ∈ Tb race F) : Zi race F d.Who = (svS race F d).Fault:=by
 obtain ⟨_,_,_,f0,_⟩:=EK h hd
 have hup:=EL race F
 have hnd : ((BJ race F (Tb race F)).map (·.Who)).Nodup:=by
  unfold BJ
  rw [List.map_map]
  exact List.pairwise_map.2 ((hup.sublist List.filter_sublist).imp fun {a b} hab e=>by
   have e' : a.Who = b.Who:=e
   rw [e',Ud] at hab; omega)
 unfold Zi
 by_cases hf : 0 < (svS race F d).Fault
 ·exact VY _ [] (Jm.mk d.Who (svS race F d).Fault []) (List.mem_map.2 ⟨d,List.mem_filter.2 ⟨hd,decide_eq_true hf⟩,rfl⟩) hnd
 ·rw [MY _ _ _ fun v hv e=>?_]
  ·have : (svS race F d).Fault = 0:=by omega
   rw [this]; rfl
  ·obtain ⟨u,hu,rfl⟩:=List.mem_map.1 hv
   obtain ⟨hu1,hu2⟩:=List.mem_filter.1 hu
   have hu2:=of_decide_eq_true hu2
   simp only at e
   have : svS race F u = svS race F d:=by unfold svS; rw [e]
   rw [this] at hu2
   exact hf hu2
def Wf (race : ByteArray) (F : List Eg) : List Ej:=Zs (Zi race F) (Px race F (Tb race F))
theorem VZ {F : List Eg} (h : FG F) (p : Ni) (race : ByteArray) : Xq p F race = some (Wf race F,Yw (Tb race F) [],0):=by
 have hlen:=KZ h race
 have hel:=KV race F
 have hef:=JM h race
 unfold Xq
 rw [YD h p race]
 simp only [Option.bind_some,Oj]
 rw [EJ p F race _ (KS race F) 0 [] [] [] (by simp; omega) (by simp; omega),List.nil_append,List.nil_append]
 have hQ : (Px race F (Tb race F)).length ≤ 4:=by unfold Px; rw [List.length_map]; exact hlen
 have hV : (BJ race F (Tb race F)).length ≤ 4:=by
  unfold BJ
  rw [List.length_map]
  exact Nat.le_trans (List.length_filter_le _ _) hlen
 have hr:=rank_is (Q:=Px race F (Tb race F)) (V:=BJ race F (Tb race F)) (by omega) (fun s hs=>by
   unfold Px at hs
   obtain ⟨d,hd,rfl⟩:=List.mem_map.1 hs
   obtain ⟨d1,_,d3,_⟩:=EK h hd
   obtain ⟨_,k2,k3⟩:=GW d1
   exact ⟨(IA h k3 (by omega)).2.1,d3⟩)
  (by unfold Px; rw [List.pairwise_map]; exact EL race F) (by omega) (fun s hs=>by
   unfold BJ at hs
   obtain ⟨d,hd,rfl⟩:=List.mem_map.1 hs
   obtain ⟨d1,_,_,d4⟩:=EK h (List.mem_filter.1 hd).1
   obtain ⟨_,k2,k3⟩:=GW d1
   exact ⟨(IA h k3 (by omega)).2.1,d4⟩)
  (by unfold BJ; rw [List.pairwise_map]; exact (EL race F).sublist List.filter_sublist)
 show Option.bind (Yc (Px race F (Tb race F)) (BJ race F (Tb race F))) _ = _
 rw [hr]
 rfl
end Go.Proofs.YtjofndbcioknfaaGreatDoor
/- Results of a race,with their points. Conditions: a right plan,right deeds with few names. No program stands here but its twins. -/
namespace Go.Proofs.YtjofndbcioknfaaGreatDoor
open Go
theorem DY {race : ByteArray} {F : List Eg} (h : FG F) {y : Ej} (hy : y ∈ Wf race F) : ∃ d ∈ Tb race F,y.Who = d.Who ∧ y.Time = (svS race F d).Time ∧ y.Fault = (svS race F d).Fault ∧ ((0 < y.Rank ∧ y.Rank ≤ 4 ∧ 0 < y.Time ∧ y.Fault = 0) ∨ (y.Rank = 0 ∧ ¬ (0 < y.Time ∧ y.Fault = 0))):=by
 have hlen:=KZ h race
 have hmk : ∀ s ∈ Px race F (Tb race F),∃ d ∈ Tb race F,s.Who = d.Who ∧ s.Time = (svS race F d).Time ∧ Zi race F s.Who = (svS race F d).Fault:=fun s hs=>by
  unfold Px at hs
  obtain ⟨d,hd,rfl⟩:=List.mem_map.1 hs
  exact ⟨d,hd,rfl,rfl,fltS_is h hd⟩
 have hG : ((Px race F (Tb race F)).filter (isG (Zi race F))).length ≤ 4:=by
  refine Nat.le_trans (List.length_filter_le _ _) ?_
  unfold Px
  rw [List.length_map]; exact hlen
 unfold Wf Zs at hy
 rcases List.mem_append.1 hy with hy | hy
 ·obtain ⟨x,hx,e1,e2,e3⟩:=OS _ _ _ _ _ hy
  rw [Us] at hx
  obtain ⟨s,hs,rfl⟩:=List.mem_map.1 hx
  obtain ⟨hs1,hs2⟩:=List.mem_filter.1 hs
  obtain ⟨d,hd,d1,d2,d3⟩:=hmk s hs1
  unfold isG at hs2
  simp only [Bool.and_eq_true,decide_eq_true_eq] at hs2
  have hup : (((Px race F (Tb race F)).filter (isG (Zi race F))).map (mkR (Zi race F))).Pairwise fun a b=>cB a.Who b.Who < 0:=by
   rw [List.pairwise_map]
   refine List.Pairwise.sublist List.filter_sublist ?_
   unfold Px
   rw [List.pairwise_map]
   exact EL race F
  obtain ⟨r1,r2,_⟩:=(SH _ 0 0 0 (QE hup) (.inl rfl)).1 y hy
  rw [Yf,List.length_map] at r2
  refine ⟨d,hd,e1.trans d1,e2.trans d2,e3.trans d3,.inl ⟨by omega,by omega,?_,?_⟩⟩
  ·rw [e2]; exact hs2.2
  ·rw [e3]; exact hs2.1
 ·obtain ⟨s,hs,rfl⟩:=List.mem_map.1 hy
  obtain ⟨hs1,hs2⟩:=List.mem_filter.1 hs
  obtain ⟨d,hd,d1,d2,d3⟩:=hmk s hs1
  refine ⟨d,hd,d1,d2,d3,.inr ⟨rfl,fun hh=>?_⟩⟩
  unfold isG at hs2
  have h1 : Zi race F s.Who = 0:=hh.2
  have h2 : 0 < s.Time:=hh.1
  rw [decide_eq_true h1,decide_eq_true h2] at hs2
  cases hs2
def Rk3 (a b : Ej) : Prop:=(0 < a.Rank ∧ 0 < b.Rank ∧ Rk2 a b) ∨ (0 < a.Rank ∧ b.Rank = 0) ∨ (a.Rank = 0 ∧ b.Rank = 0 ∧ cB a.Who b.Who < 0)
theorem QZ (race : ByteArray) (F : List Eg) : (Px race F (Tb race F)).Pairwise fun a b=>cB a.Who b.Who < 0:=by
 unfold Px
 rw [List.pairwise_map]
 exact EL race F
theorem good_up (race : ByteArray) (F : List Eg) : (((Px race F (Tb race F)).filter (isG (Zi race F))).map (mkR (Zi race F))).Pairwise fun a b=>cB a.Who b.Who < 0:=by
 rw [List.pairwise_map]
 exact (QZ race F).sublist List.filter_sublist
theorem UM (race : ByteArray) (F : List Eg) : (Wf race F).Pairwise Rk3:=by
 obtain ⟨A,B⟩:=SH _ 0 0 0 (QE (good_up race F)) (.inl rfl)
 unfold Wf Zs
 rw [List.pairwise_append]
 refine ⟨?_,?_,fun a ha b hb=>?_⟩
 ·refine List.Pairwise.imp_of_mem (fun {a b} ha hb hab=>.inl ⟨?_,?_,hab⟩) B
  ·have:=(A a ha).1; omega
  ·have:=(A b hb).1; omega
 ·rw [List.pairwise_map]
  exact ((QZ race F).sublist List.filter_sublist).imp fun {a b} hab=>.inr (.inr ⟨rfl,rfl,hab⟩)
 ·obtain ⟨s,_,rfl⟩:=List.mem_map.1 hb
  exact .inr (.inl ⟨by have:=(A a ha).1; omega,rfl⟩)
theorem MZ (race : ByteArray) (F : List Eg) : ((Wf race F).map (·.Who)).Perm ((Tb race F).map (·.Who)):=by
 have e1 : (Px race F (Tb race F)).map (·.Who) = (Tb race F).map (·.Who):=by unfold Px; rw [List.map_map]; rfl
 unfold Wf Zs
 rw [List.map_append,UL,← e1]
 have e2 : ∀ l : List Kq,(l.map (mkR (Zi race F))).map (·.Who) = l.map (·.Who):=fun l=>by rw [List.map_map]; rfl
 have p1 : ((Qd EY (((Px race F (Tb race F)).filter (isG (Zi race F))).map (mkR (Zi race F)))).map (·.Who)).Perm (((Px race F (Tb race F)).filter (isG (Zi race F))).map (·.Who)):=by
  rw [← e2]
  exact (RW _ _).map _
 rw [e2]
 refine (p1.append_right _).trans ?_
 rw [← List.map_append]
 exact (List.filter_append_perm _ _).map _
theorem OU (race : ByteArray) (F : List Eg) : ((Tb race F).map (·.Who)).Nodup:=List.pairwise_map.2 ((EL race F).imp fun {a b} h e=>by rw [e,Ud] at h; omega)
theorem UN (race : ByteArray) (F : List Eg) : ((Wf race F).map (·.Who)).Nodup:=(MZ race F).nodup_iff.2 (OU race F)
theorem LA {F : List Eg} (h : FG F) (race : ByteArray) : (Wf race F).length ≤ 4:=by
 have:=(MZ race F).length_eq
 rw [List.length_map,List.length_map] at this
 have:=KZ h race
 omega
theorem SK (H : List Eg) (m : List (ByteArray × ByteArray)) (w : ByteArray) (h : ∀ d ∈ H,d.Who ≠ w) : Et (Yw H m) w An = Et m w An:=by
 unfold Yw
 induction H generalizing m with
 | nil=>rfl
 | cons v H ih =>
  rw [List.foldl_cons,ih _ fun u hu=>h u (List.mem_cons_of_mem _ hu),Yl,if_neg fun e=>h v List.mem_cons_self e.symm]
theorem LB (H : List Eg) (m : List (ByteArray × ByteArray)) (d : Eg) (hd : d ∈ H) (hp : (H.map (·.Who)).Nodup) : Et (Yw H m) d.Who An = d.Club:=by
 induction H generalizing m with
 | nil=>cases hd
 | cons u H ih =>
  simp only [List.map_cons,List.nodup_cons] at hp
  have e : Yw (u :: H) m = Yw H (Hj m u.Who u.Club):=rfl
  rw [e]
  rcases List.mem_cons.1 hd with rfl | hd
  ·rw [SK H _ d.Who fun z hz e=>hp.1 (by rw [← e]; exact List.mem_map_of_mem hz),Yl,if_pos rfl]
  ·exact ih _ hd hp.2
def scS (C : List (ByteArray × ByteArray)) (r : Eu) (y : Ej) : Eh:=Eh.mk r.Key y.Who (Et C y.Who An) y.Rank (decide (1 < r.Legs))
theorem LC (r : Eu) (r1 : List Ej × List (ByteArray × ByteArray) × Int) (j : List Eh → Option (List Jy × Int)) : ∀ (ys : List Ej) (i : Nat) (x : List Eh),x.length + ys.length ≤ 1000 → Mp r r1 j ys i x = j (x ++ ys.map (scS r1.2.1 r))
 | [],i,x,_=>by simp [Mp]
 | y :: ys,i,x,h=>by
  simp only [List.length_cons] at h
  rw [Mp,Gi (by unfold Sb; exact decide_eq_true (by omega)),LC r r1 j ys (i + 1) _ (by simp; omega)]
  unfold scS
  simp
def CH (r : Eu) (F : List Eg) : List Eh:=(Wf r.Key F).map (scS (Yw (Tb r.Key F) []) r)
theorem rows_gd {F : List Eg} (h : FG F) (r : Eu) : GGd r.Key (decide (1 < r.Legs)) (CH r F):=by
 have hnd:=UN r.Key F
 have hup:=UM r.Key F
 refine ⟨by unfold CH; rw [List.length_map]; have:=LA h r.Key; omega,fun x hx=>?_,?_,?_,?_⟩
 ·obtain ⟨y,hy,rfl⟩:=List.mem_map.1 hx
  obtain ⟨d,hd,e1,_,_,e4⟩:=DY h hy
  obtain ⟨d1,_⟩:=EK h hd
  obtain ⟨_,k2,k3⟩:=GW d1
  have hw:=(IA h k3 (by omega)).1
  have hc:=fg_club h k3 k2
  refine ⟨rfl,rfl,?_,?_,?_,?_⟩
  ·show y.Who ∈ GX
   rw [e1]
   unfold GX
   simp only [List.mem_cons,List.not_mem_nil,or_false] at hw ⊢
   rcases hw with hw | hw | hw | hw <;> simp [hw]
  ·show Et _ y.Who An ∈ IK
   rw [e1,LB _ [] d hd (OU r.Key F)]
   unfold IK
   simp only [List.mem_cons,List.not_mem_nil,or_false] at hc ⊢
   rcases hc with hc | hc | hc <;> simp [hc]
  ·show 0 ≤ y.Rank
   omega
  ·show y.Rank ≤ 6
   omega
 ·unfold CH
  rw [List.pairwise_map]
  refine List.Pairwise.imp_of_mem (fun {a b} ha hb hab=>?_) hup
  rw [DV]
  refine .inr ⟨rfl,?_⟩
  obtain ⟨_,_,_,_,_,ea⟩:=DY h ha
  obtain ⟨_,_,_,_,_,eb⟩:=DY h hb
  show (if a.Rank = 0 then (301 : Int) else a.Rank) < (if b.Rank = 0 then (301 : Int) else b.Rank) ∨ ((if a.Rank = 0 then (301 : Int) else a.Rank) = (if b.Rank = 0 then (301 : Int) else b.Rank) ∧ cB a.Who b.Who < 0)
  rcases hab with ⟨h1,h2,h3,h4,h5,h6⟩ | ⟨h1,h2⟩ | ⟨h1,h2,h3⟩
  ·rw [if_neg (by omega),if_neg (by omega)]
   by_cases e : a.Rank = b.Rank
   ·exact .inr ⟨e,h6 (h5.1 e)⟩
   ·exact .inl (by omega)
  ·rw [if_neg (by omega),if_pos h2]
   exact .inl (by omega)
  ·rw [if_pos h1,if_pos h2]
   exact .inr ⟨rfl,h3⟩
 ·unfold CH
  rw [List.pairwise_map]
  exact List.pairwise_map.1 hnd
 ·intro a x b e hx
  unfold CH Wf Zs at e
  obtain ⟨l1,l2,he,ha,hxb⟩:=List.map_eq_append_iff.1 e
  obtain ⟨z,l3,hl2,hz,hb⟩:=List.map_eq_cons_iff.1 hxb
  subst hl2
  have hzr : 0 < z.Rank:=by rw [← hz] at hx; exact hx
  -- z stands among the good ones
  have hin : ∃ l4,rkF 0 0 0 (Qd EY (((Px r.Key F (Tb r.Key F)).filter (isG (Zi r.Key F))).map (mkR (Zi r.Key F)))) = l1 ++ z :: l4:=by
   rcases List.append_eq_append_iff.1 he with ⟨c,h1,h2⟩ | ⟨c,h1,h2⟩
   ·exfalso
    have : z ∈ ((Px r.Key F (Tb r.Key F)).filter fun s=>!isG (Zi r.Key F) s).map (mkR (Zi r.Key F)):=by rw [h2]; simp
    obtain ⟨s,_,rfl⟩:=List.mem_map.1 this
    simp [mkR] at hzr
   ·cases c with
    | nil =>
     exfalso
     rw [List.nil_append] at h2
     have : z ∈ ((Px r.Key F (Tb r.Key F)).filter fun s=>!isG (Zi r.Key F) s).map (mkR (Zi r.Key F)):=by rw [← h2]; simp
     obtain ⟨s,_,rfl⟩:=List.mem_map.1 this
     simp [mkR] at hzr
    | cons c0 c =>
     simp only [List.cons_append,List.cons.injEq] at h2
     exact ⟨c,by rw [h1,h2.1]⟩
  obtain ⟨l4,hl4⟩:=hin
  have hal : a.length = l1.length:=by rw [← ha,List.length_map]
  have hzx : x.Rank = z.Rank:=by rw [← hz]; rfl
  rcases OT _ 0 0 0 l1 z l4 hl4 with h1 | ⟨_,_,h3⟩ | ⟨d,y,h1,h2⟩
  ·left; rw [hzx,h1,hal]; simp
  ·omega
  ·right
   refine ⟨d.map (scS (Yw (Tb r.Key F) []) r),scS (Yw (Tb r.Key F) []) r y,?_,?_⟩
   ·rw [← ha,h1,List.map_append]; rfl
   ·rw [hzx,← h2]; rfl
def OV (x y : Eh) : Bool:=decide (Oh x y < 0)
theorem WA (l : List Eh) (hl : l.length ≤ 19) : Ib l = some (Qd OV l):=by
 have hs : Ie l 0 (l.length : Int) = some (Qd OV l):=by
  unfold Ie
  simp only [Oj]
  have hins : ∀ (k : List Eh → Option (List Eh)) (rp : List Eh) (x : Eh) (post : List Eh),((rp ++ x :: post).length : Int) = (l.length : Int) → (∀ y,y ∈ rp ∨ y = x ∨ y ∈ post → y ∈ (rp ++ x :: post)) →
    Fi 0 k (((rp.length : Int) - 0).toNat + 2) (rp.reverse ++ x :: post) (rp.length : Int) = k ((Vt OV x rp).reverse ++ post):=by
   intro k rp x post h1 _
   exact MP (fun x y k=>k (OV x y)) OV k (Fi 0 k) (fun _ _ _=>rfl) rp x post _ (by omega) (by simp at h1; omega) fun y _ k'=>rfl
  cases l with
  | nil=>rfl
  | cons x l =>
   have hw : W (0 + 1) = (([x] : List Eh).length : Int):=rfl
   rw [hw]
   exact EI OV (fun x=>some x) (fun k x i=>Fi 0 k ((i - 0).toNat + 2) x i) (Fz ((x :: l).length : Int) 0 fun x=>some x) ((x :: l).length : Int) (fun _ _ _=>rfl)
    (fun k rp x post h1 h2=>hins k rp x post h1 h2) l [x] _ (by simp only [List.length_cons,List.length_nil]; omega) (by simp only [List.length_cons,List.length_nil]; omega) (by simp only [List.length_cons,List.length_nil] at hl ⊢; omega)
 unfold Ib Kl
 simp only [Oj]
 rw [Gr,if_neg (by simp; omega),hs]
 simp only [Option.bind_some]
 rw [Gt,if_neg (by simp; omega)]
 rfl
theorem ltRs_is (x y : Eh) (hr : x.Race = y.Race) (hx : 0 ≤ x.Rank ∧ x.Rank ≤ 6) (hy : 0 ≤ y.Rank ∧ y.Rank ≤ 6) : OV x y = EZ x y:=by
 unfold OV EZ Oh
 apply decide_eq_decide.2
 have hk : ∀ z : Eh,kR z = if z.Rank = 0 then 301 else z.Rank:=fun _=>rfl
 rw [hk,hk]
 simp only [hr,Ud,Int.lt_irrefl,true_and,false_or]
 by_cases h1 : x.Rank = 0 <;> by_cases h2 : y.Rank = 0
 ·rw [if_neg (by simp [h1,h2]),if_neg (by simp [h1,h2]),if_pos h1,if_pos h2]
  show cB x.Who y.Who < 0 ↔ _
  omega
 ·rw [if_pos (by simp [h1,h2]),Pa (by omega) (by omega),if_pos h1,if_neg h2]
  omega
 ·rw [if_pos (by simp [h1,h2]),Pa (by omega) (by omega),if_neg h1,if_pos h2]
  omega
 ·rw [if_neg (by simp [h1,h2]),if_neg h1,if_neg h2]
  by_cases h3 : x.Rank = y.Rank
  ·rw [if_neg (by simp [h3])]
   show cB x.Who y.Who < 0 ↔ _
   omega
  ·rw [if_pos (by simpa using h3),Pa (by omega) (by omega)]
   omega
theorem YE (x : Eh) : EZ x x = false:=by
 rw [← Bool.not_eq_true,DV,Ud,Ud]
 omega
theorem WB {race : ByteArray} {rel : Bool} {g : List Eh} (h : GGd race rel g) : Ib g = some g:=by
 rw [WA g (by have:=h.len; omega),IJ (lt:=OV) (lt':=EZ) g fun x hx y hy=>ltRs_is x y ((h.row x hx).1.trans (h.row y hy).1.symm) (h.row x hx).2.2.2.2 (h.row y hy).2.2.2.2]
 congr 1
 exact QC YE SG g g (List.Pairwise.imp (fun {a b} (hab : EZ a b = true) (_ : EZ b a = false)=>hab) h.asc) h.asc fun _=>Iff.rfl
def WC (g : List Eh) : List (List Eh):=if g = [] then [] else [g]
theorem NA (g : List Eh) : (WC g).flatten = g:=by
 unfold WC
 split
 ·rename_i h; rw [h]; rfl
 ·simp
theorem YF {race : ByteArray} {rel : Bool} {g : List Eh} (hr : race ∈ [Qr,Tq,Wi]) (h : GGd race rel g) : LGd (WC g):=by
 refine ⟨fun g' hg'=>?_,?_,by rw [NA]; have:=h.len; omega⟩
 ·unfold WC at hg'
  split at hg'
  ·cases hg'
  ·rename_i hne
   rw [List.mem_singleton] at hg'
   subst hg'
   exact ⟨hne,race,rel,hr,h⟩
 ·unfold WC
  split <;> simp
def gvS (r : En) : Lw:=Lw.mk ((r.x_.Race ++ Qp) ++ r.x_.Who) r.points_
theorem YG {t : Nh} (ht : MV t) {race : ByteArray} {rel : Bool} {g : List Eh} (hr : race ∈ [Qr,Tq,Wi]) (h : GGd race rel g) : ∃ R,Sk t g = some R ∧ R.length ≤ 15 ∧ (∀ r ∈ R,Yv g r) ∧ Vx t g = some (R.map gvS,0):=by
 have hG:=YF hr h
 have hb:=both_ok ht hG
 obtain ⟨R,h1,h2,h3⟩:=rows_is t ht.toTOk (WC g) hG.one hG.ne hG.len
 rw [NA] at hb h1 h3
 refine ⟨R,h1,h2,h3,?_⟩
 have hsz : ∀ x ∈ g,x.Race.size ≤ 40 ∧ x.Who.size ≤ 40:=fun x hx=>by
  obtain ⟨e1,_,e3,_⟩:=h.row x hx
  have k1 : ∀ s ∈ [Qr,Tq,Wi],s.size ≤ 40:=by decide +kernel
  have k2 : ∀ s ∈ GX,s.size ≤ 40:=by decide +kernel
  exact ⟨by rw [e1]; exact k1 _ hr,k2 _ e3⟩
 have h20 : Qp.size = 1:=by decide +kernel
 unfold Vx
 rw [hb,Option.bind_some,if_neg (by simp),h1,Option.bind_some]
 simp only [Lf]
 have loop : ∀ (R : List En) (i : Nat) (x : List Lw),(∀ r ∈ R,r.x_ ∈ g) → x.length + R.length ≤ 1000 → Nl (fun (x1 : List Lw)=>some (x1,0)) R i x = some (x ++ R.map gvS,0):=by
  intro R
  induction R with
  | nil=>intro i x _ _; simp [Nl]
  | cons r R ih =>
   intro i x h1 h2
   simp only [List.length_cons] at h2
   obtain ⟨c1,c2⟩:=hsz r.x_ (h1 r List.mem_cons_self)
   rw [Nl,Gi (decide_eq_true (by omega)),Gi (decide_eq_true (by rw [ByteArray.size_append]; omega)),Gi (by unfold Sb; exact decide_eq_true (by omega)),ih _ _ (fun z hz=>h1 z (List.mem_cons_of_mem _ hz)) (by simp; omega)]
   simp [gvS]
 rw [loop R 0 [] (fun r hr=>(h3 r hr).1) (by simp; omega),List.nil_append]
def ofS (G : List Lw) (m : List (ByteArray × Fo)) : List (ByteArray × Fo):=G.foldl (fun m y=>Hj m y.Key y.Points) m
theorem LD (j : List (ByteArray × Fo) → Option (List Jy × Int)) : ∀ (G : List Lw) (i : Nat) (m : List (ByteArray × Fo)),Nr j G i m = j (ofS G m)
 | [],_,_=>rfl
 | y :: G,i,m=>by rw [Nr,LD j G (i + 1) _]; rfl
def ptS (m : List (ByteArray × Fo)) (k : ByteArray) : Fo:=if (Ut m k).isSome then Et m k (Fo.mk 0 0) else Fo.mk 0 1
def Yx (C : List (ByteArray × ByteArray)) (m : List (ByteArray × Fo)) (r : Eu) (y : Ej) : Jy:=Jy.mk y.Rank y.Who (Et C y.Who An) y.Time y.Fault (ptS m ((r.Key ++ Qp) ++ y.Who))
theorem LE (r : Eu) (r1 : List Ej × List (ByteArray × ByteArray) × Int) (m : List (ByteArray × Fo)) (j : List Jy → Option (List Jy × Int)) (hk : r.Key.size ≤ 40) : ∀ (ys : List Ej) (i : Nat) (x : List Jy),(∀ y ∈ ys,y.Who.size ≤ 40) → x.length + ys.length ≤ 1000 → Mq r r1 m j ys i x = j (x ++ ys.map (Yx r1.2.1 m r))
 | [],i,x,_,_=>by simp [Mq]
 | y :: ys,i,x,hw,h=>by
  simp only [List.length_cons] at h
  have h20 : Qp.size = 1:=by decide +kernel
  have hy:=hw y List.mem_cons_self
  rw [Mq,Gi (decide_eq_true (by omega)),Gi (decide_eq_true (by rw [ByteArray.size_append]; omega))]
  simp only [Oj]
  have hroom : Sb x.length = true:=by unfold Sb; exact decide_eq_true (by omega)
  have hfin:=LE r r1 m j hk ys (i + 1) (x ++ [Yx r1.2.1 m r y]) (fun z hz=>hw z (List.mem_cons_of_mem _ hz)) (by simp; omega)
  have hl : Yx r1.2.1 m r y = Jy.mk y.Rank y.Who (Et r1.2.1 y.Who An) y.Time y.Fault (ptS m ((r.Key ++ Qp) ++ y.Who)):=rfl
  have hp : ptS m ((r.Key ++ Qp) ++ y.Who) = if (Ut m ((r.Key ++ Qp) ++ y.Who)).isSome then Et m ((r.Key ++ Qp) ++ y.Who) (Fo.mk 0 0) else Fo.mk 0 1:=rfl
  cases hc : (Ut m ((r.Key ++ Qp) ++ y.Who)).isSome with
  | true =>
   rw [hc,if_pos rfl] at hp
   rw [if_neg (by simp),Gi hroom]
   rw [hl,hp] at hfin
   rw [hfin,List.map_cons,hl,hp]
   simp
  | false =>
   rw [hc,if_neg (by simp)] at hp
   rw [if_pos (by simp),Gi hroom]
   rw [hl,hp] at hfin
   rw [hfin,List.map_cons,hl,hp]
   simp
theorem SL {p : Ni} (hp : DX p) {F : List Eg} (h : FG F) {r : Eu} (hr : r ∈ p.Races) : ∃ R,Sk p.Table (CH r F) = some R ∧ R.length ≤ 15 ∧ (∀ x ∈ R,Yv (CH r F) x) ∧ Vx p.Table (CH r F) = some (R.map gvS,0) ∧
  Rk p F r = some ((Wf r.Key F).map (Yx (Yw (Tb r.Key F) []) (ofS (R.map gvS) []) r),0):=by
 have hkey:=(hp.races r hr).2
 have hg:=rows_gd h r
 obtain ⟨R,h1,h2,h3,h4⟩:=YG hp.table hkey hg
 refine ⟨R,h1,h2,h3,h4,?_⟩
 have hlen:=LA h r.Key
 have k1 : ∀ s ∈ [Qr,Tq,Wi],s.size ≤ 40:=by decide +kernel
 have k2 : ∀ s ∈ [Xm,AR,AS,AU],s.size ≤ 40:=by decide +kernel
 have hw : ∀ y ∈ Wf r.Key F,y.Who.size ≤ 40:=fun y hy=>by
  obtain ⟨d,hd,e1,_⟩:=DY h hy
  obtain ⟨_,k3,k4⟩:=GW (EK h hd).1
  rw [e1]
  exact k2 _ (IA h k4 (by omega)).1
 unfold Rk
 rw [VZ h p r.Key]
 simp only [Option.bind_some,decide_true,Bool.not_true,Bool.false_eq_true,if_false,Oj]
 rw [LC r _ _ (Wf r.Key F) 0 [] (by simp; omega),List.nil_append]
 have hs:=WB hg
 show Option.bind (Ib (CH r F)) _ = _
 rw [hs]
 simp only [Option.bind_some]
 rw [h4]
 simp only [Option.bind_some,decide_true,Bool.not_true,Bool.false_eq_true,if_false]
 rw [LD,LE r _ _ _ (k1 _ hkey) (Wf r.Key F) 0 [] hw (by simp; omega),List.nil_append]
end Go.Proofs.YtjofndbcioknfaaGreatDoor
/- A right meet that is asked. Conditions: a right plan,right deeds with few names. No program stands here but its twins. -/
namespace Go.Proofs.YtjofndbcioknfaaGreatDoor
open Go
structure LG (l : List Eg) : Prop where
 ok : DsG l
 names : ∀ d ∈ l,d.Who ∈ GY ∧ d.Club ∈ Zu
 len : l.length ≤ 40
theorem LG.facts {l : List Eg} (h : LG l) (at_ : Int) : FG (Tp l at_) :=
 ⟨fun d hd=>⟨h.ok.each d ((FQ l at_).subset hd),h.names d ((FQ l at_).subset hd)⟩,Nat.le_trans (FQ l at_).length_le h.len⟩
theorem YH (j : Option (Option Lm × Int)) : ∀ (ats : List Int) (i : Nat),(∀ a ∈ ats,Ji a = true) → Qj j ats i = j
 | [],_,_=>rfl
 | a :: ats,i,h=>by
  rw [Qj,h a List.mem_cons_self,if_neg (by simp)]
  exact YH j ats (i + 1) fun b hb=>h b (List.mem_cons_of_mem _ hb)
theorem open_is {p : Ni} (hp : DX p) {l : List Eg} (h : LG l) (ats : List Int) (a : Int) (hm : ∀ b ∈ ats ++ [a],Ji b = true) (hl : ats.length ≤ 1000) : AV p l (ats ++ [a]) = some (some (Lm.mk p (Tp l a)),0):=by
 have hlen:=h.len
 have hn : nth (ats ++ [a]) (W ((((ats ++ [a]).length : Nat) : Int) - 1)) = a:=by
  rw [List.length_append,List.length_singleton,Pa (by omega) (by omega)]
  exact Ym ats a [] (by omega)
 have hi : inB (W ((((ats ++ [a]).length : Nat) : Int) - 1)) (ats ++ [a]).length = true:=by
  rw [List.length_append,List.length_singleton,Pa (by omega) (by omega)]
  exact Kb.2 (by omega)
 unfold AV
 rw [OR hp]
 simp only [Option.bind_some,decide_true,Bool.not_true,Bool.false_eq_true,if_false]
 rw [h.ok.chk]
 simp only [Option.bind_some,decide_true,Bool.not_true,Bool.false_eq_true,if_false,Oj]
 rw [YH _ _ 0 hm,Gi hi,hn,SE p l a (by omega)]
 rfl
theorem YI (key : ByteArray) : ∀ (l : List Eu) (i : Nat),(l.map (·.Key)).Nodup → ∀ r ∈ l,r.Key = key → ∃ k : Nat,Hf key (-1) l i = ((i + k : Nat) : Int) ∧ l[k]? = some r
 | [],_,_,r,h,_=>by cases h
 | x :: l,i,hn,r,h,hk=>by
  rw [Hf]
  unfold Yi
  simp only [List.map_cons,List.nodup_cons] at hn
  by_cases hx : x.Key = key
  ·rw [if_pos (decide_eq_true hx)]
   rcases List.mem_cons.1 h with rfl | h
   ·exact ⟨0,by simp,rfl⟩
   ·exact absurd (List.mem_map_of_mem (f:=(·.Key)) h) (by rw [hk,← hx]; exact hn.1)
  ·rw [if_neg (by simpa using hx)]
   rcases List.mem_cons.1 h with rfl | h
   ·exact absurd hk hx
   ·obtain ⟨k,e1,e2⟩:=YI key l (i + 1) hn.2 r h hk
    exact ⟨k + 1,by rw [e1]; congr 1; omega,by simpa using e2⟩
theorem SM {p : Ni} (hp : DX p) {F : List Eg} (h : FG F) {r : Eu} (hr : r ∈ p.Races) : Zo p F r.Key = some (r,0):=by
 obtain ⟨k,e1,e2⟩:=YI r.Key p.Races 0 hp.keys r hr rfl
 have hidx : Hg p.Races r.Key = (k : Int):=by
  unfold Hg
  rw [Oj,e1]
  simp
 have hk : k < p.Races.length:=by
  rcases Nat.lt_or_ge k p.Races.length with h | h
  ·exact h
  ·rw [List.getElem?_eq_none h] at e2; cases e2
 have hf:=JM h r.Key
 have hnth : nth p.Races (k : Int) = r:=by unfold nth; simp [List.getD,e2]
 unfold Zo
 rw [hidx,if_neg (by simp),YD h]
 simp only [Option.bind_some]
 rw [if_neg (by rw [KV]; simp; omega),Gi (Kb.2 (by omega)),hnth]
theorem ask_is {p : Ni} (hp : DX p) {l : List Eg} (h : LG l) {r : Eu} (hr : r ∈ p.Races) (a : Int) (hm : Ji a = true) : CX p l r.Key a = some (some (Lm.mk p (Tp l a)),r,0):=by
 have ho:=open_is hp h [] a (by simpa using hm) (by simp)
 rw [List.nil_append] at ho
 unfold CX
 rw [ho]
 simp only [Option.bind_some,decide_true,Bool.not_true,Bool.false_eq_true,if_false]
 rw [SM hp (h.facts a) hr]
 rfl
theorem SN {p : Ni} (hp : DX p) {l : List Eg} (h : LG l) {r : Eu} (hr : r ∈ p.Races) (a : Int) (hm : Ji a = true) : Xr p l r.Key a = Rk p (Tp l a) r:=by
 unfold Xr
 rw [ask_is hp h hr a hm]
 simp only [Option.bind_some,decide_true,Bool.not_true,Bool.false_eq_true,if_false]
 cases Rk p (Tp l a) r <;> rfl
theorem LG.of {x : List Eg} (h : DsG x) (hn : ∀ d ∈ x,MW d) (hl : x.length ≤ 40) : LG x:=⟨h,fun d hd=>⟨(hn d hd).who,(hn d hd).club⟩,hl⟩
end Go.Proofs.YtjofndbcioknfaaGreatDoor
/- The points of the clubs of a meet. Conditions: a right plan,right deeds with few names. No program stands here but its twins. -/
namespace Go.Proofs.YtjofndbcioknfaaGreatDoor
open Go
def IB (p : Ni) (F : List Eg) (r : Eu) : List En:=(Sk p.Table (CH r F)).getD []
def Yg (p : Ni) (F : List Eg) (r : Eu) : List Jy:=(Wf r.Key F).map (Yx (Yw (Tb r.Key F) []) (ofS ((IB p F r).map gvS) []) r)
theorem RA {p : Ni} (hp : DX p) {F : List Eg} (h : FG F) {r : Eu} (hr : r ∈ p.Races) : Rk p F r = some (Yg p F r,0) ∧ Sk p.Table (CH r F) = some (IB p F r) ∧ ∀ x ∈ IB p F r,Yv (CH r F) x:=by
 obtain ⟨R,h1,_,h3,_,h5⟩:=SL hp h hr
 have e : IB p F r = R:=by unfold IB; rw [h1]; rfl
 unfold Yg
 rw [e]
 exact ⟨h5,h1,h3⟩
theorem ofS_get (G : List Lw) (k : ByteArray) : ∀ (m : List (ByteArray × Fo)) (f : Fo),Ut (ofS G m) k = some f → Ut m k = some f ∨ ∃ y ∈ G,y.Key = k ∧ y.Points = f:=by
 unfold ofS
 induction G with
 | nil=>intro m f h; exact .inl h
 | cons g G ih =>
  intro m f h
  rw [List.foldl_cons] at h
  rcases ih _ f h with h | ⟨y,hy,e⟩
  ·have e : Ut (Hj m g.Key g.Points) k = if k = g.Key then some g.Points else Ut m k:=GR g.Key k g.Points m 0
   rw [e] at h
   split at h
   ·rename_i hk
    exact .inr ⟨g,List.mem_cons_self,hk.symm,Option.some.inj h⟩
   ·exact .inl h
  ·exact .inr ⟨y,List.mem_cons_of_mem _ hy,e⟩
theorem zero_fr : Fo.mk 0 1 = fr 0:=by decide +kernel
theorem ptS_fr {L : List Eh} {R : List En} (hR : ∀ x ∈ R,Yv L x) (k : ByteArray) : ∃ v,v ≤ 6000 ∧ ptS (ofS (R.map gvS) []) k = fr v:=by
 unfold ptS
 cases hc : Ut (ofS (R.map gvS) []) k with
 | none=>exact ⟨0,by omega,by rw [if_neg (by simp),zero_fr]⟩
 | some f =>
  rw [if_pos (by rfl)]
  rcases ofS_get _ _ _ _ hc with h | ⟨y,hy,_,e2⟩
  ·simp [Ut,Oi] at h
  ·obtain ⟨x,hx,rfl⟩:=List.mem_map.1 hy
   obtain ⟨_,_,v,hv,e⟩:=hR x hx
   refine ⟨v,hv,?_⟩
   unfold Et
   rw [hc,← e2]
   exact e
theorem line_ok {p : Ni} (hp : DX p) {F : List Eg} (h : FG F) {r : Eu} (hr : r ∈ p.Races) {y : Jy} (hy : y ∈ Yg p F r) : ∃ d ∈ Tb r.Key F,y.Who = d.Who ∧ y.Club = d.Club ∧ y.Time = (svS r.Key F d).Time ∧ y.Fault = (svS r.Key F d).Fault ∧ ((0 < y.Rank ∧ y.Rank ≤ 4 ∧ 0 < y.Time ∧ y.Fault = 0) ∨ (y.Rank = 0 ∧ ¬ (0 < y.Time ∧ y.Fault = 0))) ∧ ∃ v,v ≤ 6000 ∧ y.Points = fr v:=by
 obtain ⟨z,hz,e⟩:=List.mem_map.1 hy
 obtain ⟨d,hd,e1,e2,e3,e4⟩:=DY h hz
 obtain ⟨_,_,hR⟩:=RA hp h hr
 obtain ⟨v,hv,e5⟩:=ptS_fr hR ((r.Key ++ Qp) ++ z.Who)
 have hc : Et (Yw (Tb r.Key F) []) z.Who An = d.Club:=by rw [e1,LB _ [] d hd (OU r.Key F)]
 have f0 : y.Who = z.Who:=by rw [← e,Yx]
 have f1 : y.Club = d.Club:=by rw [← e,Yx,hc]
 have f2 : y.Time = z.Time:=by rw [← e,Yx]
 have f3 : y.Fault = z.Fault:=by rw [← e,Yx]
 have f4 : y.Rank = z.Rank:=by rw [← e,Yx]
 have f5 : y.Points = fr v:=by rw [← e,Yx,e5]
 refine ⟨d,hd,f0.trans e1,f1,f2.trans e2,f3.trans e3,?_,v,hv,f5⟩
 rw [f4,f2,f3]
 exact e4
structure MF (m : List (ByteArray × Fo)) (K : ByteArray → Prop) (u : ByteArray → Nat) : Prop where
 nd : (m.map (·.1)).Nodup
 keys : ∀ k,k ∈ m.map (·.1) ↔ K k
 vals : ∀ k,K k → Et m k (Fo.mk 0 0) = fr (u k)
theorem MF.put {m : List (ByteArray × Fo)} {K : ByteArray → Prop} {u : ByteArray → Nat} (h : MF m K u) (k : ByteArray) (v : Nat) : MF (Hj m k (fr v)) (fun z=>z = k ∨ K z) (fun z=>if z = k then v else u z):=by
 obtain ⟨a,b⟩:=OP k (fr v) m h.nd
 refine ⟨a,fun z=>by rw [b z,h.keys z],fun z hz=>?_⟩
 rw [Yl]
 by_cases e : z = k
 ·rw [if_pos e,if_pos e]
 ·rw [if_neg e,if_neg e]
  rcases hz with hz | hz
  ·exact (e hz).elim
  ·exact h.vals z hz
theorem MF.congr {m : List (ByteArray × Fo)} {K K' : ByteArray → Prop} {u u' : ByteArray → Nat} (h : MF m K u) (hk : ∀ k,K k ↔ K' k) (hu : ∀ k,K' k → u k = u' k) : MF m K' u' :=
 ⟨h.nd,fun k=>(h.keys k).trans (hk k),fun k hk'=>by rw [h.vals k ((hk k).2 hk'),hu k hk']⟩
theorem WD (p : Ni) {F : List Eg} (h : FG F) (r : Eu) : (Yg p F r).length ≤ 4:=by
 unfold Yg
 rw [List.length_map]
 exact LA h r.Key
end Go.Proofs.YtjofndbcioknfaaGreatDoor
namespace Go.Proofs.YtjofndbcioknfaaGreatDoor
open Go
def GZ (x y : Ex) : Bool:=decide (Ja x y < 0)
theorem JN (x y : Ex) : GZ x y = decide (cB x.Id y.Id < 0):=by
 unfold GZ Ja
 rw [QA]
 by_cases h : cB x.Id y.Id < 0
 ·rw [if_pos (decide_eq_true h),decide_eq_true h]; rfl
 ·rw [if_neg (by simpa using h),decide_eq_false h]; rfl
theorem SO (l : List Ex) (hl : l.length ≤ 12) : Hr l 0 (l.length : Int) = some (Qd GZ l):=by
 unfold Hr
 simp only [Oj]
 have hins : ∀ (k : List Ex → Option (List Ex)) (rp : List Ex) (x : Ex) (post : List Ex),((rp ++ x :: post).length : Int) = (l.length : Int) → (∀ y,y ∈ rp ∨ y = x ∨ y ∈ post → y ∈ (rp ++ x :: post)) →
   Ev 0 k (((rp.length : Int) - 0).toNat + 2) (rp.reverse ++ x :: post) (rp.length : Int) = k ((Vt GZ x rp).reverse ++ post):=by
  intro k rp x post h1 _
  exact MP (fun x y k=>k (GZ x y)) GZ k (Ev 0 k) (fun _ _ _=>rfl) rp x post _ (by omega) (by simp at h1; omega) fun y _ k'=>rfl
 cases l with
 | nil=>rfl
 | cons x l =>
  have hw : W (0 + 1) = (([x] : List Ex).length : Int):=rfl
  rw [hw]
  exact EI GZ (fun x=>some x) (fun k x i=>Ev 0 k ((i - 0).toNat + 2) x i) (Fb ((x :: l).length : Int) 0 fun x=>some x) ((x :: l).length : Int) (fun _ _ _=>rfl)
   (fun k rp x post h1 h2=>hins k rp x post h1 h2) l [x] _ (by simp only [List.length_cons,List.length_nil]; omega) (by simp only [List.length_cons,List.length_nil]; omega) (by simp only [List.length_cons,List.length_nil] at hl ⊢; omega)
theorem WE (l : List Ex) (hl : l.length ≤ 12) : Ix l = some (Qd GZ l):=by
 unfold Ix
 obtain ⟨r,hr⟩:=Option.isSome_iff_exists.1 (len_d ⟨l.length,by omega⟩)
 simp only at hr
 rw [hr]
 simp only [Option.bind_some]
 unfold Jg
 rw [show (4611686018427387904 : Nat) = 4611686018427387903 + 1 from rfl,Fw,Pa (by omega) (by omega),if_pos (decide_eq_true (by omega)),SO l hl]
 rfl
def stW (race w : ByteArray) (t : Int) : Ex:=Ex.mk 5 1 w w An race 0 t
structure StW (race : ByteArray) (s : Ex) : Prop where
 is : s = stW race s.Who s.Time
 who : s.Who ∈ [Xm,AR,AS,AU]
 time : 0 < s.Time ∧ s.Time ≤ 360000
theorem checkW {race : ByteArray} (hr : race ∈ [Qr,Tq,Wi]) {s : Ex} (h : StW race s) : Ti s = some 0:=by
 have k1 : ∀ w ∈ [Xm,AR,AS,AU],Gy w = some true:=by decide +kernel
 have k2 : ∀ w ∈ [Qr,Tq,Wi],Gy w = some true:=by decide +kernel
 have e1:=k1 _ h.who
 have e2:=k2 _ hr
 have m5 : Ji 5 = true:=by decide
 have w1 : El 1 1 3 = true:=by decide
 have w0 : El 0 0 150 = true:=by decide
 have ht : Qk s.Time = true:=by
  unfold Qk El
  have:=h.time
  simp
  omega
 rw [h.is]
 unfold Ti stW
 simp only [Oj,m5,w1,w0,e1,e2,ht,Bool.not_true,Bool.false_eq_true,if_false,Option.bind_some,decide_true,Bool.or_self,Bool.and_true,Bool.and_self,Bool.false_and]
theorem orR3 (a b c : Int) : Rt [a,b,c] = if a ≠ 0 then a else if b ≠ 0 then b else c:=by
 unfold Rt
 simp only [Oj,Mt]
 by_cases ha : a = 0 <;> by_cases hb : b = 0 <;> by_cases hc : c = 0 <;> simp [ha,hb,hc]
theorem UO (a : Int) : Hx a a = 0:=by
 unfold Hx
 have e : Rj a = false:=by unfold Rj; simp
 simp [e]
theorem YJ {race : ByteArray} {s t : Ex} (hs : StW race s) (ht : StW race t) : Tj s t = cB s.Id t.Id:=by
 have a1 : s.At = 5:=by rw [hs.is]; rfl
 have a2 : t.At = 5:=by rw [ht.is]; rfl
 have b1 : s.Kind = 1:=by rw [hs.is]; rfl
 have b2 : t.Kind = 1:=by rw [ht.is]; rfl
 unfold Tj
 rw [orR3,a1,a2,b1,b2,UO,UO]
 show (if (0 : Int) ≠ 0 then (0 : Int) else if cB s.Id t.Id ≠ 0 then cB s.Id t.Id else 0) = _
 by_cases h : cB s.Id t.Id = 0 <;> simp [h]
theorem RB {race : ByteArray} (hr : race ∈ [Qr,Tq,Wi]) (T : List Ex) (hT : ∀ s ∈ T,StW race s) (hup : T.Pairwise fun a b=>cB a.Id b.Id < 0) (hl : T.length ≤ 1000) (j : Option Int) : ∀ (ys dn : List Ex),T = dn ++ ys → La T j ys dn.length = j
 | [],_,_=>rfl
 | y :: ys,dn,he=>by
  have ih:=RB hr T hT hup hl j ys (dn ++ [y]) (by rw [he]; simp)
  rw [List.length_append,List.length_singleton] at ih
  rw [La,checkW hr (hT y (by rw [he]; simp))]
  simp only [Option.bind_some,decide_true,Bool.not_true,Bool.false_eq_true,if_false,Oj]
  have hlen : T.length = dn.length + (ys.length + 1):=by rw [he]; simp
  by_cases h0 : (0 : Int) < (dn.length : Int)
  ·obtain ⟨d,x,hdx⟩ : ∃ d x,dn = d ++ [x]:=by
    rcases List.eq_nil_or_concat dn with h1 | ⟨d,x,h1⟩
    ·rw [h1] at h0; simp at h0
    ·exact ⟨d,x,by rw [h1]; simp⟩
   have hdl : dn.length = d.length + 1:=by rw [hdx]; simp
   have hw : W ((dn.length : Int) - 1) = (d.length : Int):=by rw [Pa (by omega) (by omega)]; omega
   have hn : nth T (d.length : Int) = x:=by rw [he,hdx]; unfold nth; simp
   have hc : cB x.Id y.Id < 0:=by
    rw [he,hdx,List.append_assoc,List.pairwise_append] at hup
    have:=hup.2.1
    simp only [List.cons_append,List.nil_append,List.pairwise_cons] at this
    exact this.1 y (by simp)
   rw [if_pos (decide_eq_true h0),hw,Gi (show inB (d.length : Int) T.length = true from Kb.2 (by omega)),hn,YJ (hT x (by rw [he,hdx]; simp)) (hT y (by rw [he]; simp)),decide_eq_false (by omega),if_neg (by simp)]
   exact ih
  ·rw [if_neg (by simpa using h0)]
   simpa using ih
theorem NB (T : List Ex) (hk : ∀ s ∈ T,s.At = 5 ∧ s.Kind = 1) (hn : (T.map (·.Id)).Nodup) (hl : T.length ≤ 1000) (j : List Ep → List Int → Option (List Ep × List Int)) : ∀ (ys dn : List Ex) (i : Nat),T = dn ++ ys → Mr 5 j ys i (dn.map fun s=>Ep.mk s false false) [] = j (T.map fun s=>Ep.mk s false false) []
 | [],dn,i,he=>by rw [Mr,he]; simp
 | y :: ys,dn,i,he=>by
  obtain ⟨h1,h2⟩:=hk y (by rw [he]; simp)
  have hlen : T.length = dn.length + (ys.length + 1):=by rw [he]; simp
  have hf : (CY (dn.map fun s=>Ep.mk s false false) y.Id).isNone = true:=by
   unfold CY
   rw [Option.isNone_iff_eq_none,List.findIdx?_eq_none_iff]
   intro z hz
   obtain ⟨s,hs,rfl⟩:=List.mem_map.1 hz
   have : y.Id ≠ s.Id:=fun e=>by
    rw [he,List.map_append,List.map_cons,List.nodup_append] at hn
    exact hn.2.2 _ (List.mem_map_of_mem hs) _ List.mem_cons_self e.symm
   exact decide_eq_false this
  have ih:=NB T hk hn hl j ys (dn ++ [y]) (i + 1) (by rw [he]; simp)
  rw [Mr,h1,if_neg (by simp)]
  simp only [Oj]
  rw [hf,h2,if_pos (by simp),Gi (by unfold Sb; rw [List.length_map]; exact decide_eq_true (by omega))]
  simpa using ih
def bst (race : ByteArray) (s : Ex) : Hp:=Pg (Mw.mk k_k race [] 0 150) s false false
structure HsW (race : ByteArray) (S : List Ex) (A : List Hp) : Prop where
 emp : A = [] ↔ S = []
 sub : ∀ b ∈ A,∃ s ∈ S,b = bst race s
 dn : A.Pairwise fun a b=>b.Time ≤ a.Time
 all : ∀ s ∈ S,(∀ z ∈ S,s.Time ≤ z.Time) → bst race s ∈ A
 low : ∀ b ∈ A.getLast?,∀ s ∈ S,b.Time ≤ s.Time
theorem LF (race : ByteArray) (T : List Ex) (hT : ∀ s ∈ T,StW race s) (hl : T.length ≤ 1000) (j : List Hp → Option (List Hp)) : ∀ (ys dn : List Ex) (i : Nat) (A : List Hp),T = dn ++ ys → HsW race dn A → A.length ≤ dn.length →
  ∃ B,Ma (Mw.mk k_k race [] 0 150) j (ys.map fun s=>Ep.mk s false false) i A = j B ∧ HsW race T B ∧ B.length ≤ T.length
 | [],dn,i,A,he,h,hA=>⟨A,rfl,by rw [he,List.append_nil]; exact h,by rw [he,List.append_nil]; exact hA⟩
 | y :: ys,dn,i,A,he,h,hA=>by
  have hy:=hT y (by rw [he]; simp)
  have hlen : T.length = dn.length + (ys.length + 1):=by rw [he]; simp
  have hfor : Wa (Mw.mk k_k race [] 0 150) y = true:=by
   have : El 0 0 150 = true:=by decide
   rw [hy.is]
   unfold Wa stW
   simp [this]
  rw [List.map_cons,Ma]
  simp only [Oj,hfor,Bool.not_true,Bool.false_eq_true,if_false]
  have hnext : ∀ A',HsW race (dn ++ [y]) A' → A'.length ≤ dn.length + 1 → ∃ B,Ma (Mw.mk k_k race [] 0 150) j (ys.map fun s=>Ep.mk s false false) (i + 1) A' = j B ∧ HsW race T B ∧ B.length ≤ T.length:=fun A' h1 h2 =>
   LF race T hT hl j ys (dn ++ [y]) (i + 1) A' (by rw [he]; simp) h1 (by simp; omega)
  have hroom : Sb A.length = true:=by unfold Sb; exact decide_eq_true (by omega)
  rcases List.eq_nil_or_concat A with h0 | ⟨A0,b,h0⟩
  ·have hd : dn = []:=h.emp.1 h0
   subst h0 hd
   simp only [List.length_nil,Int.natCast_zero,decide_true,if_true,Bool.true_or]
   rw [Gi (show Sb 0 = true from rfl)]
   refine hnext [bst race y] ⟨by simp,fun b hb=>⟨y,by simp,by simpa using hb⟩,by simp,fun s hs _=>?_,fun b hb s hs=>?_⟩ (by simp)
   ·simp only [List.nil_append,List.mem_singleton] at hs
    rw [hs]; simp
   ·simp only [List.getLast?_singleton,Option.mem_def,Option.some.injEq] at hb
    simp only [List.nil_append,List.mem_singleton] at hs
    rw [← hb,hs]
    exact Int.le_refl _
  ·have h0' : A = A0 ++ [b]:=by rw [h0]; simp
   have hAl : A.length = A0.length + 1:=by rw [h0']; simp
   have hw : W ((A.length : Int) - 1) = (A0.length : Int):=by rw [Pa (by omega) (by omega)]; omega
   have hnl : nth A (A0.length : Int) = b:=by rw [h0']; unfold nth; simp
   have hlast : A.getLast? = some b:=by rw [h0']; simp
   have hbT : ∀ s ∈ dn,b.Time ≤ s.Time:=fun s hs=>h.low b (by rw [hlast]; rfl) s hs
   obtain ⟨sb,hsb,hbe⟩:=h.sub b (by rw [h0']; simp)
   have hbt : b.Time = sb.Time:=by rw [hbe]; rfl
   rw [decide_eq_false (by omega : ¬ ((A.length : Int) = 0)),if_neg (by simp),hw,Gi (Kb.2 (by omega)),hnl]
   simp only [Bool.false_or]
   by_cases hc : y.Time ≤ b.Time
   ·rw [if_pos (decide_eq_true hc),Gi hroom]
    refine hnext (A ++ [bst race y]) ⟨by simp,fun c hc=>?_,?_,fun s hs hm=>?_,fun c hc' s hs=>?_⟩ (by simp; omega)
    ·rcases List.mem_append.1 hc with hc | hc
     ·obtain ⟨s,hs,e⟩:=h.sub c hc
      exact ⟨s,List.mem_append_left _ hs,e⟩
     ·exact ⟨y,by simp,by simpa using hc⟩
    ·rw [List.pairwise_append]
     refine ⟨h.dn,by simp,fun c hc' d hd=>?_⟩
     simp only [List.mem_singleton] at hd
     rw [hd]
     show y.Time ≤ c.Time
     have : b.Time ≤ c.Time:=by
      have hp:=h.dn
      rw [h0',List.pairwise_append] at hp
      rw [h0'] at hc'
      rcases List.mem_append.1 hc' with hc' | hc'
      ·exact hp.2.2 c hc' b (by simp)
      ·simp only [List.mem_singleton] at hc'; rw [hc']; exact Int.le_refl _
     omega
    ·rcases List.mem_append.1 hs with hs | hs
     ·exact List.mem_append_left _ (h.all s hs fun z hz=>hm z (List.mem_append_left _ hz))
     ·simp only [List.mem_singleton] at hs
      rw [hs]; simp
    ·simp only [List.getLast?_append,List.getLast?_singleton,Option.some_or,Option.mem_def,Option.some.injEq] at hc'
     rw [← hc']
     show y.Time ≤ s.Time
     rcases List.mem_append.1 hs with hs | hs
     ·have:=hbT s hs; omega
     ·simp only [List.mem_singleton] at hs; rw [hs]; exact Int.le_refl _
   ·rw [if_neg (by simpa using hc)]
    refine hnext A ⟨by rw [h0']; simp,fun c hc=>?_,h.dn,fun s hs hm=>?_,fun c hc' s hs=>?_⟩ (by omega)
    ·obtain ⟨s,hs,e⟩:=h.sub c hc
     exact ⟨s,List.mem_append_left _ hs,e⟩
    ·rcases List.mem_append.1 hs with hs | hs
     ·exact h.all s hs fun z hz=>hm z (List.mem_append_left _ hz)
     ·simp only [List.mem_singleton] at hs
      have:=hm sb (List.mem_append_left _ hsb)
      rw [hs] at this
      omega
    ·rw [hlast,Option.mem_def,Option.some.injEq] at hc'
     rw [← hc']
     rcases List.mem_append.1 hs with hs | hs
     ·exact hbT s hs
     ·simp only [List.mem_singleton] at hs; rw [hs]; omega
theorem NC (A0 : List Hp) (b : Hp) (A : List Hp) (hA : A = A0 ++ [b]) (hdn : A.Pairwise fun a b=>b.Time ≤ a.Time) (hl : A.length ≤ 1000) (j : Option (List Hp)) : ∀ (ys dn : List Hp),A = dn ++ ys → (∀ d ∈ dn,d.Time ≠ b.Time) → ys ≠ [] →
  ∃ R,Lc A j ys dn.length = some R ∧ ∀ c,c ∈ R ↔ c ∈ A ∧ c.Time = b.Time
 | [],dn,_,_,h=>absurd rfl h
 | y :: ys,dn,he,hd,_=>by
  have hlen : A.length = dn.length + (ys.length + 1):=by rw [he]; simp
  have hAl : A.length = A0.length + 1:=by rw [hA]; simp
  have hw : W ((A.length : Int) - 1) = (A0.length : Int):=by rw [Pa (by omega) (by omega)]; omega
  have hnl : nth A (A0.length : Int) = b:=by rw [hA]; unfold nth; simp
  have hlow : ∀ c ∈ A,b.Time ≤ c.Time:=fun c hc=>by
   have hp:=hdn
   rw [hA,List.pairwise_append] at hp
   rw [hA] at hc
   rcases List.mem_append.1 hc with hc | hc
   ·exact hp.2.2 c hc b (by simp)
   ·simp only [List.mem_singleton] at hc; rw [hc]; exact Int.le_refl _
  rw [Lc,hw,Gi (Kb.2 (by omega)),hnl]
  by_cases hc : y.Time = b.Time
  ·rw [if_pos (decide_eq_true hc),Gi (Vc.2 (by omega))]
   have hcut : cut A (dn.length : Int) (A.length : Int) = y :: ys:=by
    unfold cut
    rw [Int.toNat_natCast,Int.toNat_natCast,List.take_length,he]
    simp
   refine ⟨y :: ys,by rw [hcut],fun c=>⟨fun h=>?_,fun ⟨h1,h2⟩=>?_⟩⟩
   ·have hcA : c ∈ A:=by rw [he]; exact List.mem_append_right _ h
    refine ⟨hcA,?_⟩
    have h1:=hlow c hcA
    rcases List.mem_cons.1 h with rfl | h
    ·exact hc
    ·have hp:=hdn
     rw [he,List.pairwise_append] at hp
     have:=(List.pairwise_cons.1 hp.2.1).1 c h
     omega
   ·rw [he] at h1
    rcases List.mem_append.1 h1 with h1 | h1
    ·exact absurd h2 (hd c h1)
    ·exact h1
  ·rw [if_neg (by simpa using hc)]
   have hne : ys ≠ []:=fun e=>by
    subst e
    have : dn ++ [y] = A0 ++ [b]:=by rw [← he,hA]
    have:=List.append_inj_right' this rfl
    simp only [List.cons.injEq,and_true] at this
    exact hc (by rw [this])
   have ih:=NC A0 b A hA hdn hl j ys (dn ++ [y]) (by rw [he]; simp) (fun d hd'=>by
    rcases List.mem_append.1 hd' with h | h
    ·exact hd d h
    ·simp only [List.mem_singleton] at h; rw [h]; exact hc) hne
   rw [List.length_append,List.length_singleton] at ih
   exact ih
theorem RecordW {race : ByteArray} (hr : race ∈ [Qr,Tq,Wi]) (T : List Ex) (hT : ∀ s ∈ T,StW race s) (hup : T.Pairwise fun a b=>cB a.Id b.Id < 0) (hl : T.length ≤ 1000) : ∃ R,Wr [Mw.mk k_k race [] 0 150] T k_k 5 = some (R,0) ∧ ∀ c,c ∈ R ↔ ∃ s ∈ T,c = bst race s ∧ ∀ z ∈ T,s.Time ≤ z.Time:=by
 have hkinds : ∀ s ∈ [Qr,Tq,Wi],Uy [Mw.mk k_k s [] 0 150] = some 0:=by decide +kernel
 have hm : Ji 5 = true:=by decide
 have hst : Sl T = some 0:=by
  unfold Sl
  rw [if_neg (by simp; omega),Oj]
  exact RB hr T hT hup hl _ T [] rfl
 have hnd : (T.map (·.Id)).Nodup:=List.pairwise_map.2 (hup.imp fun {a b} h e=>by rw [e,Ud] at h; omega)
 have hat : ∀ s ∈ T,s.At = 5 ∧ s.Kind = 1:=fun s hs=>by
  have:=(hT s hs).is
  rw [this]
  exact ⟨rfl,rfl⟩
 have hfol : Wq T 5 = some (T.map fun s=>Ep.mk s false false,[]):=by
  unfold Wq
  rw [Oj]
  exact NB T hat hnd hl _ T [] 0 rfl
 have hka : Jl [Mw.mk k_k race [] 0 150] k_k = 0:=by
  unfold Jl Ly
  rw [Oj,Hm]
  unfold Vz
  rw [if_pos (decide_eq_true rfl)]
  rfl
 obtain ⟨A,hA,hs,hAl⟩:=LF race T hT hl (fun x=>some x) T [] 0 [] rfl ⟨by simp,fun _ h=>absurd h (by simp),by simp,fun _ h=>absurd h (by simp),fun _ h=>absurd h (by simp)⟩ (by simp)
 have hh : Vn (Mw.mk k_k race [] 0 150) (T.map fun s=>Ep.mk s false false) = some A:=by
  unfold Vn
  rw [Oj]
  exact hA
 have hbt : ∀ s,(bst race s).Time = s.Time:=fun _=>rfl
 have hrec : ∃ R,St (Mw.mk k_k race [] 0 150) (T.map fun s=>Ep.mk s false false) = some R ∧ ∀ c,c ∈ R ↔ ∃ s ∈ T,c = bst race s ∧ ∀ z ∈ T,s.Time ≤ z.Time:=by
  unfold St
  rw [hh]
  simp only [Option.bind_some,Oj]
  rcases List.eq_nil_or_concat A with h0 | ⟨A0,b,h0⟩
  ·have hT0 : T = []:=hs.emp.1 h0
   rw [h0]
   exact ⟨[],rfl,fun c=>by rw [hT0]; simp⟩
  ·have h0' : A = A0 ++ [b]:=by rw [h0]; simp
   obtain ⟨R,e,hR⟩:=NC A0 b A h0' hs.dn (by omega) (some []) A [] rfl (fun _ h=>by cases h) (by rw [h0']; simp)
   refine ⟨R,e,fun c=>?_⟩
   have hlow:=hs.low b (by rw [h0']; simp)
   obtain ⟨sb,hsb,hbe⟩:=hs.sub b (by rw [h0']; simp)
   rw [hR c]
   constructor
   ·rintro ⟨h1,h2⟩
    obtain ⟨s,hs',e⟩:=hs.sub c h1
    refine ⟨s,hs',e,fun z hz=>?_⟩
    have:=hlow z hz
    rw [e,hbt] at h2
    omega
   ·rintro ⟨s,hs',e,hz⟩
    refine ⟨by rw [e]; exact hs.all s hs' hz,?_⟩
    have h1:=hz sb hsb
    have h2:=hlow s hs'
    have h3 : b.Time = sb.Time:=by rw [hbe]; rfl
    rw [e,hbt]
    omega
 obtain ⟨R,hR1,hR2⟩:=hrec
 have hRl : R.length ≤ 100000:=by
  -- a part of the history
  have : ∀ (A : List Hp) (ys : List Hp) (i : Nat),A.length ≤ 1000 → ∀ R,Lc A (some []) ys i = some R → R.length ≤ 1000:=by
   intro A ys
   induction ys with
   | nil=>intro i _ R h; rw [Lc] at h; rw [← Option.some.inj h]; simp
   | cons y ys ih =>
    intro i hA R h
    rw [Lc] at h
    unfold Chk at h
    split at h
    ·split at h
     ·split at h
      ·rw [← Option.some.inj h]; unfold cut; simp; omega
      ·cases h
     ·exact ih (i + 1) hA R h
    ·cases h
  unfold St at hR1
  rw [hh] at hR1
  simp only [Option.bind_some,Oj] at hR1
  have:=this A A 0 (by omega) R hR1
  omega
 refine ⟨R,?_,hR2⟩
 unfold Wr BR Vy
 rw [hkinds race hr]
 simp only [Option.bind_some,decide_true,Bool.not_true,Bool.false_eq_true,if_false]
 rw [hst]
 simp only [Option.bind_some,decide_true,Bool.not_true,Bool.false_eq_true,if_false,hka,hm,hfol]
 rw [if_neg (by simp),Gi (Kb.2 (by simp))]
 simp only [Option.bind_some,decide_true,Bool.not_true,Bool.false_eq_true,if_false]
 show Option.bind (St (Mw.mk k_k race [] 0 150) (T.map fun s=>Ep.mk s false false)) _ = _
 rw [hR1]
 simp only [Option.bind_some]
 unfold Uz
 rw [Gi (decide_eq_true (by simp; omega))]
 simp
theorem OW (r : Eu) (j : List Ex → Option Bool) : ∀ (ys : List Jy) (i : Nat) (x : List Ex),x.length + ys.length ≤ 1000 → Hz r j ys i x = j (x ++ (ys.filter fun y=>decide (0 < y.Rank)).map fun y=>stW r.Key y.Who y.Time)
 | [],i,x,_=>by simp [Hz]
 | y :: ys,i,x,h=>by
  simp only [List.length_cons] at h
  rw [Hz]
  simp only [Oj]
  by_cases hc : 0 < y.Rank
  ·rw [if_pos (decide_eq_true hc),Gi (by unfold Sb; exact decide_eq_true (by omega)),OW r j ys (i + 1) _ (by simp; omega),List.filter_cons_of_pos (by simpa using hc)]
   simp [stW]
  ·rw [if_neg (by simpa using hc),OW r j ys (i + 1) _ (by omega),List.filter_cons_of_neg (by simpa using hc)]
theorem UP (y : Jy) : ∀ (l : List Hp) (i : Nat),decide (0 ≤ Ff y (-1) l i) = decide (∃ b ∈ l,b.Who = y.Who)
 | [],_=>by
  rw [Ff]
  simp
 | x :: l,i=>by
  rw [Ff]
  unfold Ny
  by_cases hx : x.Who = y.Who
  ·rw [if_pos (decide_eq_true hx),decide_eq_true (by omega : (0 : Int) ≤ (i : Int)),decide_eq_true ⟨x,List.mem_cons_self,hx⟩]
  ·rw [if_neg (by simpa using hx),UP y l (i + 1)]
   apply decide_eq_decide.2
   constructor
   ·rintro ⟨b,hb,e⟩
    exact ⟨b,List.mem_cons_of_mem _ hb,e⟩
   ·rintro ⟨b,hb,e⟩
    rcases List.mem_cons.1 hb with rfl | hb
    ·exact absurd e hx
    ·exact ⟨b,hb,e⟩
theorem UQ (r6 : List Hp × Int) (j : Option Bool) : ∀ (ys : List Jy) (i : Nat),(∀ y ∈ ys,(∃ b ∈ r6.1,b.Who = y.Who) ↔ y.Rank = 1) → Ip r6 j ys i = j
 | [],_,_=>rfl
 | y :: ys,i,h=>by
  rw [Ip]
  unfold Jk Jo
  have e : decide (∃ b ∈ r6.1,b.Who = y.Who) = decide (y.Rank = 1):=decide_eq_decide.2 (h y List.mem_cons_self)
  rw [Oj,UP,e,if_neg (by simp)]
  exact UQ r6 j ys (i + 1) fun z hz=>h z (List.mem_cons_of_mem _ hz)
theorem RC {race : ByteArray} {F : List Eg} (h : FG F) {y : Ej} (hy : y ∈ Wf race F) (h0 : 0 < y.Rank) : y.Rank = 1 ↔ ∀ z ∈ Wf race F,0 < z.Rank → y.Time ≤ z.Time:=by
 have hup:=UM race F
 have hfirst : ∃ f t,Wf race F = f :: t ∧ (0 < f.Rank → f.Rank = 1):=by
  cases hR : Wf race F with
  | nil=>rw [hR] at hy; cases hy
  | cons f t =>
   refine ⟨f,t,rfl,fun hf=>?_⟩
   unfold Wf Zs at hR
   cases hg : rkF 0 0 0 (Qd EY (((Px race F (Tb race F)).filter (isG (Zi race F))).map (mkR (Zi race F)))) with
   | nil =>
    rw [hg,List.nil_append] at hR
    have : f ∈ ((Px race F (Tb race F)).filter fun s=>!isG (Zi race F) s).map (mkR (Zi race F)):=by rw [hR]; simp
    obtain ⟨s,_,rfl⟩:=List.mem_map.1 this
    simp [mkR] at hf
   | cons f' t' =>
    rw [hg] at hR
    simp only [List.cons_append,List.cons.injEq] at hR
    rw [← hR.1]
    rcases OT _ 0 0 0 [] f' t' hg with h1 | ⟨_,_,h3⟩ | ⟨d,u,h1,_⟩
    ·simpa using h1
    ·omega
    ·simp at h1
 obtain ⟨f,t,e,hf⟩:=hfirst
 have hpair:=hup
 rw [e,List.pairwise_cons] at hpair
 rw [e] at hy ⊢
 have hfpos : 0 < f.Rank:=by
  rcases List.mem_cons.1 hy with rfl | hy
  ·exact h0
  ·rcases hpair.1 y hy with ⟨h1,_,_⟩ | ⟨h1,h2⟩ | ⟨_,h2,_⟩ <;> omega
 have hf1:=hf hfpos
 have hle : ∀ z ∈ f :: t,0 < z.Rank → f.Time ≤ z.Time ∧ (f.Rank = z.Rank ↔ f.Time = z.Time):=fun z hz hz0=>by
  rcases List.mem_cons.1 hz with rfl | hz
  ·exact ⟨Int.le_refl _,by simp⟩
  ·rcases hpair.1 z hz with ⟨h1,h2,h3⟩ | ⟨h1,h2⟩ | ⟨_,h2,_⟩
   ·exact ⟨h3.1,h3.2.2.1⟩
   ·omega
   ·omega
 have hy2:=hle y hy h0
 constructor
 ·intro h1 z hz hz0
  have h3:=hle z hz hz0
  have h4:=hy2.2.1 (by omega)
  omega
 ·intro h1
  have h3:=h1 f List.mem_cons_self hfpos
  have h4:=hy2.2.2 (by omega)
  omega
theorem UR {p : Ni} (hp : DX p) {l : List Eg} (h : LG l) (a b : Int) (j : Option Bool) : ∀ (ys : List Eu) (i : Nat),(∀ r ∈ ys,r ∈ p.Races) → Iq (p,a) (l,b) j ys i = j
 | [],_,_=>rfl
 | r :: ys,i,hr=>by
  have hr0:=hr r List.mem_cons_self
  have hm : Ji 60 = true:=by decide
  have hF:=h.facts 60
  have hkey:=(hp.races r hr0).2
  have e2:=(RA hp hF hr0).1
  rw [← SN hp h hr0 60 hm] at e2
  have hll:=WD p hF r
  -- the steps
  generalize hS : ((Yg p (Tp l 60) r).filter fun y=>decide (0 < y.Rank)).map (fun y=>stW r.Key y.Who y.Time) = S
  have hSl : S.length ≤ 4:=by rw [← hS,List.length_map]; exact Nat.le_trans (List.length_filter_le _ _) hll
  have hSm : ∀ s ∈ S,StW r.Key s ∧ ∃ y ∈ Yg p (Tp l 60) r,0 < y.Rank ∧ s.Who = y.Who ∧ s.Time = y.Time:=fun s hs=>by
   rw [← hS] at hs
   obtain ⟨y,hy,rfl⟩:=List.mem_map.1 hs
   obtain ⟨hy1,hy2⟩:=List.mem_filter.1 hy
   have hy2:=of_decide_eq_true hy2
   obtain ⟨d,hd,k1,k2,k3,k4,k5,k6⟩:=line_ok hp hF hr0 hy1
   obtain ⟨d1,d2,d3,d4⟩:=EK hF hd
   obtain ⟨_,q2,q3⟩:=GW d1
   refine ⟨⟨rfl,?_,?_⟩,y,hy1,hy2,rfl,rfl⟩
   ·show y.Who ∈ _
    rw [k1]
    exact (IA hF q3 (by omega)).1
   ·show 0 < y.Time ∧ y.Time ≤ 360000
    rcases k5 with ⟨_,_,t1,_⟩ | ⟨t1,_⟩
    ·rw [k3] at t1 ⊢; omega
    ·omega
  have hlw : ((Yg p (Tp l 60) r).map (·.Who)).Nodup:=by
   have e : (Yg p (Tp l 60) r).map (·.Who) = (Wf r.Key (Tp l 60)).map (·.Who):=by
    unfold Yg
    rw [List.map_map]
    rfl
   rw [e]
   exact UN r.Key (Tp l 60)
  have hSid : (S.map (·.Id)).Nodup:=by
   have e : S.map (·.Id) = ((Yg p (Tp l 60) r).filter fun y=>decide (0 < y.Rank)).map (·.Who):=by
    rw [← hS,List.map_map]
    rfl
   rw [e]
   exact hlw.sublist (List.filter_sublist.map _)
  have htr : ∀ x y z : Ex,GZ x y = true → GZ y z = true → GZ x z = true:=fun x y z h1 h2=>by
   rw [JN,decide_eq_true_eq] at *; exact BF h1 h2
  have hup : (Qd GZ S).Pairwise fun a b=>cB a.Id b.Id < 0:=by
   refine (BG htr S ((List.pairwise_map.1 hSid).imp fun {a b} hne hb=>?_)).imp fun {a b} hab=>by rw [JN,decide_eq_true_eq] at hab; exact hab
   rw [JN,decide_eq_false_iff_not] at hb
   rw [JN,decide_eq_true_eq]
   have h0 : cB a.Id b.Id ≠ 0:=fun e=>hne (JJ e)
   have:=JK a.Id b.Id
   omega
  obtain ⟨R,hR1,hR2⟩:=RecordW hkey (Qd GZ S) (fun s hs=>(hSm s ((Us _ _ _).1 hs)).1) hup (by rw [Yf]; omega)
  rw [Iq,e2]
  simp only [Option.bind_some,decide_true,Bool.not_true,Bool.false_eq_true,if_false,Oj]
  rw [OW r _ _ 0 [] (by simp; omega),List.nil_append,hS,WE S (by omega)]
  simp only [Option.bind_some]
  rw [hR1]
  simp only [Option.bind_some,decide_true,Bool.not_true,Bool.false_eq_true,if_false]
  rw [UQ]
  ·exact UR hp h a b j ys (i + 1) fun z hz=>hr z (List.mem_cons_of_mem _ hz)
  ·intro y hy
   obtain ⟨zy,hzy,ey⟩:=List.mem_map.1 hy
   have y1 : y.Rank = zy.Rank:=by rw [← ey,Yx]
   have y2 : y.Time = zy.Time:=by rw [← ey,Yx]
   have y3 : y.Who = zy.Who:=by rw [← ey,Yx]
   have hmemS : ∀ z ∈ Yg p (Tp l 60) r,0 < z.Rank → stW r.Key z.Who z.Time ∈ Qd GZ S:=fun z hz hz0=>by
    rw [Us,← hS]
    exact List.mem_map.2 ⟨z,List.mem_filter.2 ⟨hz,decide_eq_true hz0⟩,rfl⟩
   constructor
   ·rintro ⟨c,hc,hcw⟩
    obtain ⟨s,hs,e,hmin⟩:=(hR2 c).1 hc
    obtain ⟨_,z,hz,hz0,hz1,hz2⟩:=hSm s ((Us _ _ _).1 hs)
    have hzw : z.Who = y.Who:=by rw [← hz1,← hcw,e]; rfl
    have hzy' : z = y:=by
     obtain ⟨d1,d2,e1⟩:=List.append_of_mem hz
     rw [e1] at hy hlw
     rw [List.map_append,List.map_cons,List.nodup_append] at hlw
     rcases List.mem_append.1 hy with hm | hm
     ·exact absurd hzw.symm (hlw.2.2 _ (List.mem_map_of_mem hm) _ (by simp))
     ·rcases List.mem_cons.1 hm with hm | hm
      ·exact hm.symm
      ·exact absurd (hzw ▸ List.mem_map_of_mem (f:=(·.Who)) hm) (List.nodup_cons.1 hlw.2.1).1
    subst hzy'
    rw [y1]
    refine (RC hF hzy (by omega)).2 fun u hu hu0=>?_
    have hul : Yx (Yw (Tb r.Key (Tp l 60)) []) (ofS ((IB p (Tp l 60) r).map gvS) []) r u ∈ Yg p (Tp l 60) r:=List.mem_map_of_mem hu
    have:=hmin _ (hmemS _ hul hu0)
    have h2 : (stW r.Key u.Who u.Time).Time = u.Time:=rfl
    rw [hz2,y2] at this
    exact this
   ·intro h1
    have h0 : 0 < y.Rank:=by omega
    refine ⟨bst r.Key (stW r.Key y.Who y.Time),(hR2 _).2 ⟨_,hmemS y hy h0,rfl,fun z hz=>?_⟩,rfl⟩
    obtain ⟨_,u,hu,hu0,_,hu2⟩:=hSm z ((Us _ _ _).1 hz)
    obtain ⟨zu,hzu,eu⟩:=List.mem_map.1 hu
    have u1 : u.Rank = zu.Rank:=by rw [← eu,Yx]
    have u2 : u.Time = zu.Time:=by rw [← eu,Yx]
    have:=(RC hF hzy (by omega)).1 (by omega) zu hzu (by omega)
    show y.Time ≤ z.Time
    omega
theorem h10R_ok : Wb = some true:=by decide +kernel
theorem plain_TopResultsAreRecords (l : List Int) (hl : l.length ≤ 9223372036854775807) : Ow l = some true:=by
 have hL : GT l:=by unfold GT; omega
 obtain ⟨p,a1,e1,p1,q1,hp⟩:=YB hL (a:=0) (by omega) (by omega)
 obtain ⟨n,a2,e2,p2,q2,n1,n2⟩:=BH hL (a:=a1) (by omega) (by omega) 4 16 (by omega) (by omega) (by omega)
 obtain ⟨x,a3,e3,p3,q3,x1,x2,x3⟩:=VV hL n (by omega) (by omega) (a:=a2) (by omega) (by omega)
 have hG : LG x:=LG.of x2 x3 (by omega)
 unfold Ow
 rw [e1]; simp only [Option.bind_some]
 rw [e2]; simp only [Option.bind_some]
 rw [e3]; simp only [Option.bind_some,Oj]
 rw [UR hp hG a1 a3 _ p.Races 0 fun _ hr=>hr,h10R_ok]
 rfl
end Go.Proofs.YtjofndbcioknfaaGreatDoor
