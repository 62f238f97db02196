/- The plain law of UndoneIsNothing. No program stands here but its twins. -/
import Derived.Test.YtjlcjcabljbolaaGreatDoorPPlan
import Derived.Test.YtjlcjcabljbolaaGreatDoorPMeetSort
/- Ranks that the stream gives pass the program's check. No program stands here but its twins. -/
namespace Go.Proofs.YtjlcjcabljbolaaGreatDoor
open Go
def UG (g : List Du) : Prop:=∀ a x b,g = a ++ x :: b → 0 < x.Rank → x.Rank = (a.length : Int) + 1 ∨ ∃ d y,a = d ++ [y] ∧ y.Rank = x.Rank
structure GGd (race : ByteArray) (rel : Bool) (g : List Du) : Prop where
 len : g.length ≤ 5
 row : ∀ x ∈ g,x.Race = race ∧ x.Relay = rel ∧ x.Who ∈ EL ∧ x.Club ∈ FU ∧ 0 ≤ x.Rank ∧ x.Rank ≤ 6
 asc : g.Pairwise fun x y=>CM x y = true
 who : g.Pairwise fun x y=>x.Who ≠ y.Who
 rank : UG g
structure LGd (Gs : List (List Du)) : Prop where
 grp : ∀ g ∈ Gs,g ≠ [] ∧ ∃ race rel,race ∈ HW ∧ GGd race rel g
 diff : Gs.Pairwise fun g g'=>∀ x ∈ g,∀ y ∈ g',cB x.Race y.Race < 0
 len : Gs.flatten.length ≤ 15
theorem LGd.one {Gs : List (List Du)} (h : LGd Gs) : ∀ g ∈ Gs,One g ∧ g.length ≤ 5:=fun g hg=>by
 obtain ⟨h1,race,rel,_,h2⟩:=h.grp g hg
 exact ⟨⟨h1,fun x hx y hy=>by rw [(h2.row x hx).1,(h2.row y hy).1]⟩,h2.len⟩
theorem LGd.ne {Gs : List (List Du)} (h : LGd Gs) : Gs.Pairwise fun g g'=>∀ x ∈ g,∀ y ∈ g',x.Race ≠ y.Race :=
 h.diff.imp fun hd x hx y hy e=>by have:=hd x hx y hy; rw [e,St] at this; omega
theorem LGd.row {Gs : List (List Du)} (h : LGd Gs) : ∀ x ∈ Gs.flatten,x.Race ∈ HW ∧ x.Who ∈ EL ∧ x.Club ∈ FU ∧ 0 ≤ x.Rank ∧ x.Rank ≤ 6:=fun x hx=>by
 obtain ⟨g,hg,hx⟩:=List.mem_flatten.1 hx
 obtain ⟨_,race,rel,hr,h2⟩:=h.grp g hg
 obtain ⟨r1,_,r3,r4,r5⟩:=h2.row x hx
 exact ⟨by rw [r1]; exact hr,r3,r4,r5⟩
theorem LGd.asc {Gs : List (List Du)} (h : LGd Gs) : Gs.flatten.Pairwise fun x y=>CM x y = true:=by
 rw [List.pairwise_flatten]
 refine ⟨fun g hg=>?_,h.diff.imp fun hd x hx y hy=>BK.2 (.inl (hd x hx y hy))⟩
 obtain ⟨_,race,rel,_,h2⟩:=h.grp g hg
 exact h2.asc
theorem LGd.who {Gs : List (List Du)} (h : LGd Gs) : Gs.flatten.Pairwise fun x y=>¬ (x.Race = y.Race ∧ x.Who = y.Who):=by
 rw [List.pairwise_flatten]
 refine ⟨fun g hg=>?_,h.ne.imp fun hd x hx y hy e=>hd x hx y hy e.1⟩
 obtain ⟨_,race,rel,_,h2⟩:=h.grp g hg
 exact h2.who.imp fun hne e=>hne e.2
theorem keyP {s : ByteArray} (h : s ∈ HW ∨ s ∈ EL ∨ (s ∈ FU ∧ s ≠ An)) : Gd s = some true:=by
 simp only [HW,EL,FU,List.mem_cons,List.not_mem_nil,or_false] at h
 rcases h with (rfl | rfl | rfl) | (rfl | rfl | rfl | rfl | rfl) | ⟨rfl | rfl | rfl | rfl | rfl,hn⟩
 any_goals (decide +kernel)
 exact (hn rfl).elim
theorem NG {x y : Du} (hx : 0 ≤ x.Rank ∧ x.Rank ≤ 6) (hy : 0 ≤ y.Rank ∧ y.Rank ≤ 6) (h : CM x y = true) : Ro x y < 0:=by
 have hc : Hi x.Race y.Race = cB x.Race y.Race:=rfl
 have hw : Hi x.Who y.Who = cB x.Who y.Who:=rfl
 have hor : ∀ a b c : Int,Sz [a,b,c] = if a ≠ 0 then a else if b ≠ 0 then b else c:=fun a b c=>by
  unfold Sz
  simp only [Jy]
  rw [Mc,Mc,Mc,Mc]
  by_cases h1 : a = 0
  ·by_cases h2 : b = 0
   ·by_cases h3 : c = 0
    ·simp [h1,h2,h3]
    ·simp [h1,h2,h3]
   ·simp [h1,h2]
  ·simp [h1]
 have hk : Kw x.Rank y.Rank = kR x - kR y:=by
  have k1:=@UC x ⟨hx.1,by omega⟩
  have k2:=@UC y ⟨hy.1,by omega⟩
  unfold Kw
  simp only [Jy]
  have e : kR x - kR y = W (kR x - kR y):=(Oc (by omega) (by omega)).symm
  rw [e]
  unfold kR
  by_cases a : x.Rank = 0
  ·by_cases b : y.Rank = 0
   ·simp [a,b]
   ·simp [a,b]
  ·by_cases b : y.Rank = 0
   ·simp [a,b]
   ·simp [a,b]
 unfold Ro
 rw [hc,hw,hk,hor]
 rw [BK] at h
 rcases h with h | ⟨e,h⟩
 ·rw [if_pos (by omega)]; exact h
 ·rw [e,St,if_neg (by simp)]
  rcases h with h | ⟨k,h⟩
  ·rw [if_pos (by omega)]; omega
  ·rw [if_neg (by omega)]; exact h
theorem QR (j : List (Ff × Bool) → Option Int) (l : List Du) (hw : l.Pairwise fun x y=>¬ (x.Race = y.Race ∧ x.Who = y.Who)) : ∀ (ys dn : List Du) (m : List (Ff × Bool)),l = dn ++ ys → (∀ e,Ee m e false = true → ∃ x ∈ dn,e = Ff.mk x.Race x.Who) →
  ∃ m',Ks j ys dn.length m = j m'
 | [],dn,m,_,_=>⟨m,rfl⟩
 | y :: ys,dn,m,h1,h2=>by
  have hno : Ee m (Ff.mk y.Race y.Who) false = false:=by
   cases hm : Ee m (Ff.mk y.Race y.Who) false with
   | false=>rfl
   | true =>
    obtain ⟨x,hx,e⟩:=h2 _ hm
    rw [h1,List.pairwise_append] at hw
    injection e with e1 e2
    exact (hw.2.2 x hx y List.mem_cons_self ⟨e1.symm,e2.symm⟩).elim
  rw [Ks,hno,if_neg (by simp)]
  obtain ⟨m',e⟩:=QR j l hw ys (dn ++ [y]) (Gj m (Ff.mk y.Race y.Who) true) (by rw [h1]; simp) (fun e he=>by
   rw [Tl] at he
   split at he
   ·rename_i hk; exact ⟨y,by simp,hk⟩
   ·obtain ⟨x,hx,e'⟩:=h2 e he; exact ⟨x,by simp [hx],e'⟩)
  rw [List.length_append,List.length_singleton] at e
  exact ⟨m',e⟩
theorem QS (g : List Du) (g0 : Du) (hg0 : nth g 0 = g0) (hin : inB 0 g.length = true) : ∀ (ys : List Du) (i : Nat),(∀ y ∈ ys,y.Relay = g0.Relay) → Fj g (some (-1)) ys i = some (-1)
 | [],_,_=>rfl
 | y :: ys,i,h=>by
  rw [Fj]
  unfold Ry
  rw [Ga hin,hg0,h y List.mem_cons_self]
  simp only [decide_true,Bool.not_true,Option.bind_some,Bool.false_eq_true,if_false]
  exact QS g g0 hg0 hin ys (i + 1) fun z hz=>h z (List.mem_cons_of_mem _ hz)
theorem NH (j : Option Int) : ∀ (Gs : List (List Du)) (i : Nat),(∀ g ∈ Gs,g ≠ [] ∧ ∃ race rel,race ∈ HW ∧ GGd race rel g) → Ka j Gs i = j
 | [],_,_=>rfl
 | g :: Gs,i,h=>by
  obtain ⟨h1,race,rel,_,h2⟩:=h g List.mem_cons_self
  rw [Ka]
  unfold Iz Jo
  simp only [Jy]
  have hp:=List.length_pos_iff.2 h1
  have hin : inB 0 g.length = true:=Jb.2 (by omega)
  have hm : nth g 0 ∈ g:=List.mem_of_getElem? (Ed hin).1
  rw [QS g (nth g 0) rfl hin g 0 fun y hy=>by rw [(h2.row y hy).2.1,(h2.row _ hm).2.1]]
  simp only [Option.bind_some]
  rw [if_neg (by simp)]
  exact NH j Gs (i + 1) fun g' h'=>h g' (List.mem_cons_of_mem _ h')
theorem NI (g : List Du) (hr : UG g) (hl : g.length ≤ 5) (j : Option Int) : ∀ (ys dn : List Du),g = dn ++ ys → Kt g j ys dn.length = j
 | [],_,_=>rfl
 | y :: ys,dn,h=>by
  have hdl : dn.length ≤ 5:=by rw [h] at hl; simp at hl; omega
  have ih:=NI g hr hl j ys (dn ++ [y]) (by rw [h]; simp)
  rw [List.length_append,List.length_singleton] at ih
  rw [Kt]
  simp only [Jy]
  rw [Oc (by omega) (by omega)]
  by_cases hc : ((decide (0 < y.Rank)) && (!decide (y.Rank = ((dn.length : Int) + 1)))) = true
  ·rw [if_pos hc]
   simp only [Bool.and_eq_true,decide_eq_true_eq,Bool.not_eq_true',decide_eq_false_iff_not] at hc
   rcases hr dn y ys h hc.1 with h1 | ⟨d,p,e,h1⟩
   ·exact (hc.2 h1).elim
   ·subst e
    have hlen : ((d ++ [p]).length : Int) = (d.length : Int) + 1:=by simp
    have hn : nth g (d.length : Int) = p:=by
     have : g = d ++ p :: (y :: ys):=by rw [h]; simp
     rw [this]; exact Vs d p (y :: ys) rfl
    have hin : inB (d.length : Int) g.length = true:=Jb.2 (by rw [h]; simp; omega)
    have hz : decide (((d ++ [p]).length : Int) = 0) = false:=decide_eq_false (by omega)
    rw [hz,if_neg (by simp),hlen,show (d.length : Int) + 1 - 1 = (d.length : Int) by omega,Oc (by omega) (by omega),Ga hin,hn,h1]
    simp only [decide_true,Bool.not_true,Bool.or_self,Bool.and_false,Bool.false_eq_true,if_false]
    exact ih
  ·rw [if_neg hc]
   simp only [Bool.not_eq_true] at hc
   rw [if_neg (by rw [hc]; simp)]
   exact ih
theorem NJ (j : Option Int) : ∀ (Gs : List (List Du)) (i : Nat),(∀ g ∈ Gs,g ≠ [] ∧ ∃ race rel,race ∈ HW ∧ GGd race rel g) → Jj j Gs i = j
 | [],_,_=>rfl
 | g :: Gs,i,h=>by
  obtain ⟨h1,race,rel,_,h2⟩:=h g List.mem_cons_self
  rw [Jj]
  simp only [Jy]
  have:=NI g h2.rank h2.len (Jj j Gs (i + 1)) g [] rfl
  rw [List.length_nil] at this
  rw [this]
  exact NJ j Gs (i + 1) fun g' h'=>h g' (List.mem_cons_of_mem _ h')
theorem NK (j : Option Int) : ∀ (Gs : List (List Du)) (i : Nat),(∀ g ∈ Gs,g.length ≤ 5) → Kb j Gs i = j
 | [],_,_=>rfl
 | g :: Gs,i,h=>by
  have hl:=h g List.mem_cons_self
  rw [Kb]
  simp only [Jy]
  rw [Lt,if_neg (by simp; omega)]
  exact NK j Gs (i + 1) fun g' h'=>h g' (List.mem_cons_of_mem _ h')
theorem NL {Gs : List (List Du)} (h : LGd Gs) : Ql Gs.flatten = some 0:=by
 unfold Ql
 simp only [Jy]
 have hlen:=h.len
 obtain ⟨m',e⟩:=QR (fun _=>Option.bind (Rx Gs.flatten) (fun r1=>Ka (Jj (Kb (some 0) r1 0) r1 0) r1 0)) Gs.flatten h.who Gs.flatten [] [] rfl (fun e he=>by simp [Ee,Ur,Od] at he)
 rw [List.length_nil] at e
 rw [e,NB Gs (fun g hg=>(h.one g hg).1) h.ne (by omega),Option.bind_some,NH _ Gs 0 h.grp,NJ _ Gs 0 h.grp,NK _ Gs 0 fun g hg=>(h.one g hg).2]
theorem FX (l : List Du) (hl : l.length ≤ 15) (hr : ∀ x ∈ l,x.Race ∈ HW ∧ x.Who ∈ EL ∧ x.Club ∈ FU ∧ 0 ≤ x.Rank ∧ x.Rank ≤ 6) (ha : l.Pairwise fun x y=>CM x y = true) (j : Option Int) : ∀ (ys dn : List Du),l = dn ++ ys → Jg l j ys dn.length = j
 | [],_,_=>rfl
 | y :: ys,dn,h=>by
  have ih:=FX l hl hr ha j ys (dn ++ [y]) (by rw [h]; simp)
  rw [List.length_append,List.length_singleton] at ih
  obtain ⟨r1,r2,r3,r4⟩:=hr y (by rw [h]; simp)
  have hdl : dn.length ≤ 15:=by rw [h] at hl; simp at hl; omega
  have k1:=keyP (.inl r1)
  have k2:=keyP (.inr (.inl r2))
  have hw : Dx y.Rank 0 300 = true:=by unfold Dx; simp; omega
  rw [Jg,k1]
  simp only [Jy,Option.bind_some,Bool.not_true,Bool.false_eq_true,if_false,k2,Bool.or_self,hw,Bool.false_or]
  have hclub : ∀ Z : Option Int,(if (!decide (y.Club = An)) = true then Option.bind (Gd y.Club) (fun r3=>if ((!decide (y.Club = An)) && (!r3)) = true then some 5 else Z) else if ((!decide (y.Club = An)) && true) = true then some 5 else Z) = Z:=by
   intro Z
   by_cases hc : y.Club = An
   ·simp [hc]
   ·rw [if_pos (by simp [hc]),keyP (.inr (.inr ⟨r3,hc⟩)),Option.bind_some,if_neg (by simp)]
  refine (hclub _).trans ?_
  rcases List.eq_nil_or_concat dn with rfl | ⟨d,x,rfl⟩
  ·rw [if_neg (by simp)]; simpa using ih
  ·simp only [List.concat_eq_append] at *
   have hlen : ((d ++ [x]).length : Int) = (d.length : Int) + 1:=by simp
   have hn : nth l (d.length : Int) = x:=by
    have : l = d ++ x :: (y :: ys):=by rw [h]; simp
    rw [this]; exact Vs d x (y :: ys) rfl
   have hin : inB (d.length : Int) l.length = true:=Jb.2 (by rw [h]; simp; omega)
   have hlt : CM x y = true:=by
    rw [h,List.pairwise_append] at ha
    exact ha.2.2 x (by simp) y (by simp)
   have hneg:=NG (hr x (by rw [h]; simp)).2.2.2 r4 hlt
   rw [if_pos (decide_eq_true (by omega)),hlen,show (d.length : Int) + 1 - 1 = (d.length : Int) by omega,Oc (by omega) (by omega),Ga hin,hn,if_neg (by simp; omega)]
   exact ih
theorem SD {Gs : List (List Du)} (h : LGd Gs) : Py Gs.flatten = some 0:=by
 have hl:=h.len
 unfold Py
 rw [if_neg (by simp only [decide_eq_true_eq]; omega)]
 simp only [Jy]
 have:=FX Gs.flatten hl h.row h.asc (Option.bind (Ql Gs.flatten) (fun r4=>some r4)) Gs.flatten [] rfl
 rw [List.length_nil] at this
 rw [this,NL h]; rfl
theorem both_ok {t : Lu} {Gs : List (List Du)} (ht : JU t) (h : LGd Gs) : Rp t Gs.flatten = some 0:=by
 unfold Rp
 rw [NC ht,SD h]; rfl
end Go.Proofs.YtjlcjcabljbolaaGreatDoor
/- Results of a race: who has Rs,the ranks,the points. Conditions: a right plan,right deeds with few names. No program stands here but its twins. -/
namespace Go.Proofs.YtjlcjcabljbolaaGreatDoor
open Go
theorem LK : ∀ (l : List Dw) (i : Nat) (pt pr : Int) (z : Dw),z ∈ rkF i pt pr l → ∃ x ∈ l,z.Who = x.Who ∧ z.Time = x.Time ∧ z.Fault = x.Fault
 | [],_,_,_,_,h=>by cases h
 | x :: xs,i,pt,pr,z,h=>by
  rw [rkF] at h
  rcases List.mem_cons.1 h with rfl | h
  ·exact ⟨x,List.mem_cons_self,rfl,rfl,rfl⟩
  ·obtain ⟨y,hy,e⟩:=LK xs _ _ _ z h
   exact ⟨y,List.mem_cons_of_mem _ hy,e⟩
theorem QT : ∀ (l : List Dw) (i : Nat) (pt pr : Int),(rkF i pt pr l).map (·.Who) = l.map (·.Who)
 | [],_,_,_=>rfl
 | x :: xs,i,pt,pr=>by simp only [rkF,List.map_cons,QT xs]
def Rk2 (a b : Dw) : Prop:=a.Time ≤ b.Time ∧ a.Rank ≤ b.Rank ∧ (a.Rank = b.Rank ↔ a.Time = b.Time) ∧ (a.Time = b.Time → cB a.Who b.Who < 0)
theorem OQ : ∀ (l : List Dw) (i : Nat) (pt pr : Int),l.Pairwise (fun a b=>DH a b = true) → (i = 0 ∨ (1 ≤ pr ∧ pr ≤ (i : Int) ∧ ∀ x ∈ l,pt ≤ x.Time)) →
  (∀ z ∈ rkF i pt pr l,1 ≤ z.Rank ∧ z.Rank ≤ (i : Int) + l.length ∧ (i = 0 ∨ (pt ≤ z.Time ∧ pr ≤ z.Rank ∧ (z.Rank = pr ↔ z.Time = pt)))) ∧ (rkF i pt pr l).Pairwise Rk2
 | [],_,_,_,_,_=>⟨fun z h=>absurd h (by simp [rkF]),by simp [rkF]⟩
 | x :: xs,i,pt,pr,hp,hi=>by
  rw [List.pairwise_cons] at hp
  have hle : ∀ y ∈ xs,x.Time ≤ y.Time ∧ (x.Time = y.Time → cB x.Who y.Who < 0):=fun y hy=>by
   have:=EK.1 (hp.1 y hy)
   omega
  have hx : i = 0 ∨ pt ≤ x.Time:=hi.imp id fun h=>h.2.2 x List.mem_cons_self
  generalize hr : (if decide (0 < (i : Int)) && decide (x.Time = pt) then pr else (i : Int) + 1) = r
  have hr' : rkF i pt pr (x :: xs) = Dw.mk x.Who r x.Time x.Fault :: rkF (i + 1) x.Time r xs:=by rw [rkF]; simp only [hr]
  have hrr : (0 < i ∧ x.Time = pt ∧ r = pr) ∨ (r = (i : Int) + 1 ∧ (i = 0 ∨ x.Time ≠ pt)):=by
   rw [← hr]
   by_cases h : 0 < i
   ·by_cases h2 : x.Time = pt
    ·left
     rw [if_pos (by simp [h,h2])]
     exact ⟨h,h2,rfl⟩
    ·right
     rw [if_neg (by simp [h2])]
     exact ⟨rfl,.inr h2⟩
   ·right
    rw [if_neg (by simp; omega)]
    exact ⟨rfl,.inl (by omega)⟩
  have hr1 : 1 ≤ r ∧ r ≤ (i : Int) + 1:=by
   rcases hrr with ⟨h1,_,h3⟩ | ⟨h1,_⟩
   ·rcases hi with h | ⟨h4,h5,_⟩ <;> omega
   ·omega
  obtain ⟨A,B⟩:=OQ xs (i + 1) x.Time r hp.2 (.inr ⟨hr1.1,by push_cast; omega,fun y hy=>(hle y hy).1⟩)
  rw [hr']
  refine ⟨fun z hz=>?_,List.pairwise_cons.2 ⟨fun z hz=>?_,B⟩⟩
  ·rcases List.mem_cons.1 hz with rfl | hz
   ·refine ⟨hr1.1,by simp only [List.length_cons]; push_cast; omega,?_⟩
    rcases hi with h | ⟨h4,h5,h6⟩
    ·exact .inl h
    ·right
     have:=h6 x List.mem_cons_self
     simp only
     rcases hrr with ⟨h1,h2,h3⟩ | ⟨h1,h2⟩ <;> omega
   ·obtain ⟨a1,a2,a3⟩:=A z hz
    refine ⟨a1,by simp only [List.length_cons]; push_cast at a2 ⊢; omega,?_⟩
    rcases hi with h | ⟨h4,h5,h6⟩
    ·exact .inl h
    ·right
     have:=h6 x List.mem_cons_self
     rcases a3 with a3 | ⟨a3,a4,a5⟩
     ·omega
     ·rcases hrr with ⟨h1,h2,h3⟩ | ⟨h1,h2⟩ <;> omega
  ·obtain ⟨a1,a2,a3⟩:=A z hz
   obtain ⟨y,hy,y1,y2,_⟩:=LK xs _ _ _ z hz
   obtain ⟨l1,l2⟩:=hle y hy
   rcases a3 with a3 | ⟨a3,a4,a5⟩
   ·omega
   ·refine ⟨by simp only; omega,by simp only; omega,by simp only; omega,?_⟩
    simp only
    rw [y1]
    intro e
    exact l2 (by omega)
theorem QU : ∀ (l : List Dw) (i : Nat) (pt pr : Int) (a : List Dw) (x : Dw) (b : List Dw),rkF i pt pr l = a ++ x :: b → x.Rank = (i : Int) + a.length + 1 ∨ (a = [] ∧ x.Rank = pr ∧ 0 < i) ∨ ∃ d y,a = d ++ [y] ∧ y.Rank = x.Rank
 | [],i,pt,pr,a,x,b,h=>by simp [rkF] at h
 | z :: zs,i,pt,pr,a,x,b,h=>by
  rw [rkF] at h
  cases a with
  | nil =>
   simp only [List.nil_append,List.cons.injEq] at h
   rw [← h.1]
   show (if (decide (0 < (i : Int)) && decide (z.Time = pt)) = true then pr else (i : Int) + 1) = _ ∨ (_ ∧ (if (decide (0 < (i : Int)) && decide (z.Time = pt)) = true then pr else (i : Int) + 1) = pr ∧ _) ∨ ∃ d y,_ ∧ Dw.Rank y = (if (decide (0 < (i : Int)) && decide (z.Time = pt)) = true then pr else (i : Int) + 1)
   by_cases hc : (decide (0 < (i : Int)) && decide (z.Time = pt)) = true
   ·rw [if_pos hc]
    refine .inr (.inl ⟨rfl,rfl,?_⟩)
    simp at hc
    omega
   ·rw [if_neg hc]
    exact .inl (by simp)
  | cons a0 a =>
   simp only [List.cons_append,List.cons.injEq] at h
   rcases QU zs (i + 1) _ _ a x b h.2 with e | ⟨e1,e2,_⟩ | ⟨d,y,e1,e2⟩
   ·refine .inl ?_
    simp only [List.length_cons]
    push_cast at e ⊢
    omega
   ·refine .inr (.inr ⟨[],a0,by rw [e1]; rfl,?_⟩)
    rw [← h.1,e2]
   ·exact .inr (.inr ⟨a0 :: d,y,by rw [e1]; rfl,e2⟩)
def swS (race : ByteArray) (m : List (ByteArray × Dt)) (y : Dt) : List (ByteArray × Dt):=if decide (y.Race = race) && decide (y.Kind = 3) then Gj m y.Who y else m
def swM (race : ByteArray) (l : List Dt) : List (ByteArray × Dt):=l.foldl (swS race) []
theorem OR (race : ByteArray) : ∀ (ys : List Dt) (i : Nat) (m : List (ByteArray × Dt)),Nz race (fun x=>x) ys i m = ys.foldl (swS race) m
 | [],_,m=>rfl
 | y :: ys,i,m=>by
  rw [Nz]
  simp only [Pe,List.foldl_cons]
  unfold swS
  cases hc : (decide (y.Race = race) && decide (y.Kind = 3)) with
  | true=>rw [if_pos rfl,if_pos rfl]; exact OR race ys (i + 1) _
  | false=>rw [if_neg (by simp),if_neg (by simp)]; exact OR race ys (i + 1) _
theorem swum_is (p : Mp) (l : List Dt) (race : ByteArray) : Hq p l race = swM race l:=by
 unfold Hq
 rw [Pe]
 exact OR race l 0 []
theorem swM_get {race : ByteArray} {l : List Dt} {w : ByteArray} {y : Dt} (h : Ur (swM race l) w = some y) : y ∈ l ∧ y.Kind = 3 ∧ y.Race = race ∧ y.Who = w:=by
 have key : ∀ (ys : List Dt) (m : List (ByteArray × Dt)),(∀ z ∈ ys,z ∈ l) → (∀ w y,Ur m w = some y → y ∈ l ∧ y.Kind = 3 ∧ y.Race = race ∧ y.Who = w) → ∀ w y,Ur (ys.foldl (swS race) m) w = some y → y ∈ l ∧ y.Kind = 3 ∧ y.Race = race ∧ y.Who = w:=by
  intro ys
  induction ys with
  | nil=>intro m _ h; exact h
  | cons z ys ih =>
   intro m hz hm
   rw [List.foldl_cons]
   refine ih _ (fun u hu=>hz u (List.mem_cons_of_mem _ hu)) fun w y hy=>?_
   unfold swS at hy
   split at hy
   ·rename_i hc
    simp only [Bool.and_eq_true,decide_eq_true_eq] at hc
    have e : Ur (Gj m z.Who z) w = if w = z.Who then some z else Ur m w:=HI z.Who w z m 0
    rw [e] at hy
    split at hy
    ·rename_i hw
     obtain rfl:=Option.some.inj hy
     exact ⟨hz z List.mem_cons_self,hc.2,hc.1,hw.symm⟩
    ·exact hm w y hy
   ·exact hm w y hy
 exact key l [] (fun _ h=>h) (fun w y h=>by simp [Ur,Od] at h) w y h
structure FG (F : List Dt) : Prop where
 ok : ∀ d ∈ F,DG d ∧ d.Who ∈ DK ∧ d.Club ∈ Wx
 len : F.length ≤ 40
theorem NM {α : Type} [DecidableEq α] : ∀ (l l' : List α),l.Nodup → (∀ x ∈ l,x ∈ l') → l.length ≤ l'.length
 | [],_,_,_=>Nat.zero_le _
 | x :: l,l',h,hm=>by
  rw [List.nodup_cons] at h
  have hx:=hm x List.mem_cons_self
  have:=NM l (l'.erase x) h.2 fun y hy=>(List.mem_erase_of_ne (fun e=>h.1 (by rw [← e]; exact hy))).2 (hm y (List.mem_cons_of_mem _ hy))
  rw [List.length_erase_of_mem hx] at this
  have:=List.length_pos_of_mem hx
  simp only [List.length_cons]
  omega
theorem HY {F : List Dt} (h : FG F) {d : Dt} (hd : d ∈ F) (hk : d.Kind ≠ 4) : d.Who ∈ [Ok,AO,AP,AQ] ∧ Gd d.Who = some true ∧ Gd d.Race = some true:=by
 obtain ⟨g,n,_⟩:=h.ok d hd
 obtain ⟨h1,h2⟩:=g.who hk
 have e0 : Gd An = some false:=by decide +kernel
 refine ⟨?_,h1,h2⟩
 unfold DK at n
 simp only [List.mem_cons,List.not_mem_nil,or_false] at n ⊢
 rcases n with n | n | n | n | n
 ·exact .inl n
 ·exact .inr (.inl n)
 ·exact .inr (.inr (.inl n))
 ·exact .inr (.inr (.inr n))
 ·rw [n,e0] at h1; cases h1
theorem fg_club {F : List Dt} (h : FG F) {d : Dt} (hd : d ∈ F) (hk : d.Kind = 1) : d.Club ∈ [Ts,DS,An]:=by
 obtain ⟨g,_,n⟩:=h.ok d hd
 have eA : Gd k_A = some false:=by decide +kernel
 have hAe : k_A ≠ An:=by decide +kernel
 unfold Wx at n
 simp only [List.mem_cons,List.not_mem_nil,or_false] at n ⊢
 rcases n with h1 | h1 | h1 | h1
 ·exact .inl h1
 ·exact .inr (.inl h1)
 ·exact .inr (.inr h1)
 ·rcases g.club hk with h2 | h2
  ·exact absurd (h1.symm.trans h2) hAe
  ·rw [h1,eA] at h2; cases h2
theorem GU {F : List Dt} (h : FG F) (race : ByteArray) : (FM race F).length ≤ 4:=by
 have ho:=QI race F
 have:=NM ((FM race F).map (·.1)) [Ok,AO,AP,AQ] ho.nd fun x hx=>by
  obtain ⟨p,hp,rfl⟩:=List.mem_map.1 hx
  obtain ⟨e1,_,e3,e4⟩:=ho.is p hp
  rw [e1]
  exact (HY h e4 (by omega)).1
 rw [List.length_map] at this
 exact this
theorem UH {F : List Dt} (h : FG F) (p : Mp) (race : ByteArray) : Qy p F race = some (Zd race F):=OO p F race (by have:=GU h race; omega)
def D0 : Dt:=Dt.mk An 0 0 0 An An An 0 0 An 0
def IP (race : ByteArray) (F : List Dt) (d : Dt) : Bool:=(Ur (swM race F) d.Who).isSome
def svS (race : ByteArray) (F : List Dt) (d : Dt) : Dt:=Ee (swM race F) d.Who D0
def Rs (race : ByteArray) (F : List Dt) : List Dt:=(Zd race F).filter (IP race F)
def Ny (race : ByteArray) (F : List Dt) (H : List Dt) : List Jk:=H.map fun d=>Jk.mk d.Who (svS race F d).Time
def Wy (race : ByteArray) (F : List Dt) (H : List Dt) : List Ib:=(H.filter fun d=>decide (0 < (svS race F d).Fault)).map fun d=>Ib.mk d.Who (svS race F d).Fault []
def Yi (H : List Dt) (m : List (ByteArray × ByteArray)) : List (ByteArray × ByteArray):=H.foldl (fun m d=>Gj m d.Who d.Club) m
theorem CA (p : Mp) (F : List Dt) (race : ByteArray) (j : List Ib → List Jk → List (ByteArray × ByteArray) → Option (List Dw × List (ByteArray × ByteArray) × Int)) : ∀ (ys : List Dt) (i : Nat) (v : List Ib) (q : List Jk) (c : List (ByteArray × ByteArray)),v.length + ys.length ≤ 1000 → q.length + ys.length ≤ 1000 →
  Lw p F race j ys i v q c = j (v ++ Wy race F (ys.filter (IP race F))) (q ++ Ny race F (ys.filter (IP race F))) (Yi (ys.filter (IP race F)) c)
 | [],i,v,q,c,_,_=>by simp [Lw,Wy,Ny,Yi]
 | y :: ys,i,v,q,c,h1,h2=>by
  simp only [List.length_cons] at h1 h2
  rw [Lw]
  simp only [Pe,swum_is]
  have hh : IP race F y = (Ur (swM race F) y.Who).isSome:=rfl
  have hs : Ee (swM race F) y.Who (Dt.mk An 0 0 0 An An An 0 0 An 0) = svS race F y:=rfl
  rw [hs]
  cases hc : (Ur (swM race F) y.Who).isSome with
  | false =>
   rw [if_pos (by simp),List.filter_cons_of_neg (by rw [hh,hc]; simp)]
   exact CA p F race j ys (i + 1) v q c (by omega) (by omega)
  | true =>
   rw [if_neg (by simp),Ga (by unfold Rt; exact decide_eq_true (by omega)),List.filter_cons_of_pos (by rw [hh,hc])]
   by_cases hf : 0 < (svS race F y).Fault
   ·rw [if_pos (decide_eq_true hf),Ga (by unfold Rt; exact decide_eq_true (by omega)),CA p F race j ys (i + 1) _ _ _ (by simp; omega) (by simp; omega)]
    unfold Wy Ny Yi
    rw [List.filter_cons_of_pos (by simpa using hf)]
    simp
   ·rw [if_neg (by simpa using hf),CA p F race j ys (i + 1) v _ _ (by omega) (by simp; omega)]
    unfold Wy Ny Yi
    rw [List.filter_cons_of_neg (by simpa using hf)]
    simp
theorem EM {F : List Dt} (h : FG F) {race : ByteArray} {d : Dt} (hd : d ∈ Rs race F) : d ∈ Zd race F ∧ (svS race F d ∈ F ∧ (svS race F d).Kind = 3 ∧ (svS race F d).Race = race ∧ (svS race F d).Who = d.Who) ∧ (0 ≤ (svS race F d).Time ∧ (svS race F d).Time ≤ 360000) ∧ (0 ≤ (svS race F d).Fault ∧ (svS race F d).Fault ≤ 8):=by
 obtain ⟨h1,h2⟩:=List.mem_filter.1 hd
 unfold IP at h2
 obtain ⟨y,hy⟩:=Option.isSome_iff_exists.1 h2
 have e : svS race F d = y:=by unfold svS Ee; rw [hy]; rfl
 have g:=swM_get hy
 rw [e]
 have gd:=(h.ok y g.1).1
 exact ⟨h1,g,gd.time (.inr g.2.1),gd.fault g.2.1⟩
theorem CB (race : ByteArray) (F : List Dt) : (Rs race F).Pairwise fun a b=>cB a.Who b.Who < 0:=((entL_up race F).sublist List.filter_sublist).imp fun {a b} h=>by
 rw [HQ,decide_eq_true_eq] at h
 exact h
theorem HZ {F : List Dt} (h : FG F) (race : ByteArray) : (Rs race F).length ≤ 4:=by
 have h1:=List.length_filter_le (IP race F) (Zd race F)
 have h2:=GU h race
 rw [HU] at h1
 unfold Rs
 omega
def Xt (race : ByteArray) (F : List Dt) (w : ByteArray) : Int:=Ee (Xw (Wy race F (Rs race F)) []) w 0
theorem JW (V : List Ib) (m : List (ByteArray × Int)) (w : ByteArray) (h : ∀ v ∈ V,v.Who ≠ w) : Ee (Xw V m) w 0 = Ee m w 0:=by
 unfold Xw
 induction V generalizing m with
 | nil=>rfl
 | cons v V ih =>
  rw [List.foldl_cons,ih _ fun u hu=>h u (List.mem_cons_of_mem _ hu),Tl,if_neg fun e=>h v List.mem_cons_self e.symm]
theorem SE (V : List Ib) (m : List (ByteArray × Int)) (v : Ib) (hv : v ∈ V) (hp : (V.map (·.Who)).Nodup) : Ee (Xw V m) v.Who 0 = v.Fault:=by
 induction V generalizing m with
 | nil=>cases hv
 | cons u V ih =>
  simp only [List.map_cons,List.nodup_cons] at hp
  have e : Xw (u :: V) m = Xw V (Gj m u.Who u.Fault):=rfl
  rw [e]
  rcases List.mem_cons.1 hv with rfl | hv
  ·rw [JW V _ v.Who fun z hz e=>hp.1 (by rw [← e]; exact List.mem_map_of_mem hz),Tl,if_pos rfl]
  ·exact ih _ hv hp.2
theorem fltS_is {F : List Dt} (h : FG F) {race : ByteArray} {d : Dt} (hd : d ∈ Rs race F) : Xt race F d.Who = (svS race F d).Fault:=by
 obtain ⟨_,_,_,f0,_⟩:=EM h hd
 have hup:=CB race F
 have hnd : ((Wy race F (Rs race F)).map (·.Who)).Nodup:=by
  unfold Wy
  rw [List.map_map]
  exact List.pairwise_map.2 ((hup.sublist List.filter_sublist).imp fun {a b} hab e=>by
   have e' : a.Who = b.Who:=e
   rw [e',St] at hab; omega)
 unfold Xt
 by_cases hf : 0 < (svS race F d).Fault
 ·exact SE _ [] (Ib.mk d.Who (svS race F d).Fault []) (List.mem_map.2 ⟨d,List.mem_filter.2 ⟨hd,decide_eq_true hf⟩,rfl⟩) hnd
 ·rw [JW _ _ _ fun v hv e=>?_]
  ·have : (svS race F d).Fault = 0:=by omega
   rw [this]; rfl
  ·obtain ⟨u,hu,rfl⟩:=List.mem_map.1 hv
   obtain ⟨hu1,hu2⟩:=List.mem_filter.1 hu
   have hu2:=of_decide_eq_true hu2
   simp only at e
   have : svS race F u = svS race F d:=by unfold svS; rw [e]
   rw [this] at hu2
   exact hf hu2
def Uq (race : ByteArray) (F : List Dt) : List Dw:=Zb (Xt race F) (Ny race F (Rs race F))
theorem SF {F : List Dt} (h : FG F) (p : Mp) (race : ByteArray) : Vd p F race = some (Uq race F,Yi (Rs race F) [],0):=by
 have hlen:=HZ h race
 have hel:=HU race F
 have hef:=GU h race
 unfold Vd
 rw [UH h p race]
 simp only [Option.bind_some,Pe]
 rw [CA p F race _ (Zd race F) 0 [] [] [] (by simp; omega) (by simp; omega),List.nil_append,List.nil_append]
 have hQ : (Ny race F (Rs race F)).length ≤ 4:=by unfold Ny; rw [List.length_map]; exact hlen
 have hV : (Wy race F (Rs race F)).length ≤ 4:=by
  unfold Wy
  rw [List.length_map]
  exact Nat.le_trans (List.length_filter_le _ _) hlen
 have hr:=rank_is (Q:=Ny race F (Rs race F)) (V:=Wy race F (Rs race F)) (by omega) (fun s hs=>by
   unfold Ny at hs
   obtain ⟨d,hd,rfl⟩:=List.mem_map.1 hs
   obtain ⟨d1,_,d3,_⟩:=EM h hd
   obtain ⟨_,k2,k3⟩:=GT d1
   exact ⟨(HY h k3 (by omega)).2.1,d3⟩)
  (by unfold Ny; rw [List.pairwise_map]; exact CB race F) (by omega) (fun s hs=>by
   unfold Wy at hs
   obtain ⟨d,hd,rfl⟩:=List.mem_map.1 hs
   obtain ⟨d1,_,_,d4⟩:=EM h (List.mem_filter.1 hd).1
   obtain ⟨_,k2,k3⟩:=GT d1
   exact ⟨(HY h k3 (by omega)).2.1,d4⟩)
  (by unfold Wy; rw [List.pairwise_map]; exact (CB race F).sublist List.filter_sublist)
 show Option.bind (Vw (Ny race F (Rs race F)) (Wy race F (Rs race F))) _ = _
 rw [hr]
 rfl
end Go.Proofs.YtjlcjcabljbolaaGreatDoor
/- Results of a race,with their points. Conditions: a right plan,right deeds with few names. No program stands here but its twins. -/
namespace Go.Proofs.YtjlcjcabljbolaaGreatDoor
open Go
theorem EN {race : ByteArray} {F : List Dt} (h : FG F) {y : Dw} (hy : y ∈ Uq race F) : ∃ d ∈ Rs race F,y.Who = d.Who ∧ y.Time = (svS race F d).Time ∧ y.Fault = (svS race F d).Fault ∧ ((0 < y.Rank ∧ y.Rank ≤ 4 ∧ 0 < y.Time ∧ y.Fault = 0) ∨ (y.Rank = 0 ∧ ¬ (0 < y.Time ∧ y.Fault = 0))):=by
 have hlen:=HZ h race
 have hmk : ∀ s ∈ Ny race F (Rs race F),∃ d ∈ Rs race F,s.Who = d.Who ∧ s.Time = (svS race F d).Time ∧ Xt race F s.Who = (svS race F d).Fault:=fun s hs=>by
  unfold Ny at hs
  obtain ⟨d,hd,rfl⟩:=List.mem_map.1 hs
  exact ⟨d,hd,rfl,rfl,fltS_is h hd⟩
 have hG : ((Ny race F (Rs race F)).filter (isG (Xt race F))).length ≤ 4:=by
  refine Nat.le_trans (List.length_filter_le _ _) ?_
  unfold Ny
  rw [List.length_map]; exact hlen
 unfold Uq Zb at hy
 rcases List.mem_append.1 hy with hy | hy
 ·obtain ⟨x,hx,e1,e2,e3⟩:=LK _ _ _ _ _ hy
  rw [Xf] at hx
  obtain ⟨s,hs,rfl⟩:=List.mem_map.1 hx
  obtain ⟨hs1,hs2⟩:=List.mem_filter.1 hs
  obtain ⟨d,hd,d1,d2,d3⟩:=hmk s hs1
  unfold isG at hs2
  simp only [Bool.and_eq_true,decide_eq_true_eq] at hs2
  have hup : (((Ny race F (Rs race F)).filter (isG (Xt race F))).map (mkR (Xt race F))).Pairwise fun a b=>cB a.Who b.Who < 0:=by
   rw [List.pairwise_map]
   refine List.Pairwise.sublist List.filter_sublist ?_
   unfold Ny
   rw [List.pairwise_map]
   exact CB race F
  obtain ⟨r1,r2,_⟩:=(OQ _ 0 0 0 (MT hup) (.inl rfl)).1 y hy
  rw [Xq,List.length_map] at r2
  refine ⟨d,hd,e1.trans d1,e2.trans d2,e3.trans d3,.inl ⟨by omega,by omega,?_,?_⟩⟩
  ·rw [e2]; exact hs2.2
  ·rw [e3]; exact hs2.1
 ·obtain ⟨s,hs,rfl⟩:=List.mem_map.1 hy
  obtain ⟨hs1,hs2⟩:=List.mem_filter.1 hs
  obtain ⟨d,hd,d1,d2,d3⟩:=hmk s hs1
  refine ⟨d,hd,d1,d2,d3,.inr ⟨rfl,fun hh=>?_⟩⟩
  unfold isG at hs2
  have h1 : Xt race F s.Who = 0:=hh.2
  have h2 : 0 < s.Time:=hh.1
  rw [decide_eq_true h1,decide_eq_true h2] at hs2
  cases hs2
def Rk3 (a b : Dw) : Prop:=(0 < a.Rank ∧ 0 < b.Rank ∧ Rk2 a b) ∨ (0 < a.Rank ∧ b.Rank = 0) ∨ (a.Rank = 0 ∧ b.Rank = 0 ∧ cB a.Who b.Who < 0)
theorem NN (race : ByteArray) (F : List Dt) : (Ny race F (Rs race F)).Pairwise fun a b=>cB a.Who b.Who < 0:=by
 unfold Ny
 rw [List.pairwise_map]
 exact CB race F
theorem good_up (race : ByteArray) (F : List Dt) : (((Ny race F (Rs race F)).filter (isG (Xt race F))).map (mkR (Xt race F))).Pairwise fun a b=>cB a.Who b.Who < 0:=by
 rw [List.pairwise_map]
 exact (NN race F).sublist List.filter_sublist
theorem rank_up (race : ByteArray) (F : List Dt) : (Uq race F).Pairwise Rk3:=by
 obtain ⟨A,B⟩:=OQ _ 0 0 0 (MT (good_up race F)) (.inl rfl)
 unfold Uq Zb
 rw [List.pairwise_append]
 refine ⟨?_,?_,fun a ha b hb=>?_⟩
 ·refine List.Pairwise.imp_of_mem (fun {a b} ha hb hab=>.inl ⟨?_,?_,hab⟩) B
  ·have:=(A a ha).1; omega
  ·have:=(A b hb).1; omega
 ·rw [List.pairwise_map]
  exact ((NN race F).sublist List.filter_sublist).imp fun {a b} hab=>.inr (.inr ⟨rfl,rfl,hab⟩)
 ·obtain ⟨s,_,rfl⟩:=List.mem_map.1 hb
  exact .inr (.inl ⟨by have:=(A a ha).1; omega,rfl⟩)
theorem JX (race : ByteArray) (F : List Dt) : ((Uq race F).map (·.Who)).Perm ((Rs race F).map (·.Who)):=by
 have e1 : (Ny race F (Rs race F)).map (·.Who) = (Rs race F).map (·.Who):=by unfold Ny; rw [List.map_map]; rfl
 unfold Uq Zb
 rw [List.map_append,QT,← e1]
 have e2 : ∀ l : List Jk,(l.map (mkR (Xt race F))).map (·.Who) = l.map (·.Who):=fun l=>by rw [List.map_map]; rfl
 have p1 : ((Qc DH (((Ny race F (Rs race F)).filter (isG (Xt race F))).map (mkR (Xt race F)))).map (·.Who)).Perm (((Ny race F (Rs race F)).filter (isG (Xt race F))).map (·.Who)):=by
  rw [← e2]
  exact (OF _ _).map _
 rw [e2]
 refine (p1.append_right _).trans ?_
 rw [← List.map_append]
 exact (List.filter_append_perm _ _).map _
theorem QV (race : ByteArray) (F : List Dt) : ((Rs race F).map (·.Who)).Nodup:=List.pairwise_map.2 ((CB race F).imp fun {a b} h e=>by rw [e,St] at h; omega)
theorem rank_nd (race : ByteArray) (F : List Dt) : ((Uq race F).map (·.Who)).Nodup:=(JX race F).nodup_iff.2 (QV race F)
theorem NO {F : List Dt} (h : FG F) (race : ByteArray) : (Uq race F).length ≤ 4:=by
 have:=(JX race F).length_eq
 rw [List.length_map,List.length_map] at this
 have:=HZ h race
 omega
theorem OS (H : List Dt) (m : List (ByteArray × ByteArray)) (w : ByteArray) (h : ∀ d ∈ H,d.Who ≠ w) : Ee (Yi H m) w An = Ee m w An:=by
 unfold Yi
 induction H generalizing m with
 | nil=>rfl
 | cons v H ih =>
  rw [List.foldl_cons,ih _ fun u hu=>h u (List.mem_cons_of_mem _ hu),Tl,if_neg fun e=>h v List.mem_cons_self e.symm]
theorem OT (H : List Dt) (m : List (ByteArray × ByteArray)) (d : Dt) (hd : d ∈ H) (hp : (H.map (·.Who)).Nodup) : Ee (Yi H m) d.Who An = d.Club:=by
 induction H generalizing m with
 | nil=>cases hd
 | cons u H ih =>
  simp only [List.map_cons,List.nodup_cons] at hp
  have e : Yi (u :: H) m = Yi H (Gj m u.Who u.Club):=rfl
  rw [e]
  rcases List.mem_cons.1 hd with rfl | hd
  ·rw [OS H _ d.Who fun z hz e=>hp.1 (by rw [← e]; exact List.mem_map_of_mem hz),Tl,if_pos rfl]
  ·exact ih _ hd hp.2
def scS (C : List (ByteArray × ByteArray)) (r : Eh) (y : Dw) : Du:=Du.mk r.Key y.Who (Ee C y.Who An) y.Rank (decide (1 < r.Legs))
theorem IA (r : Eh) (r1 : List Dw × List (ByteArray × ByteArray) × Int) (j : List Du → Option (List Iw × Int)) : ∀ (ys : List Dw) (i : Nat) (x : List Du),x.length + ys.length ≤ 1000 → Lg r r1 j ys i x = j (x ++ ys.map (scS r1.2.1 r))
 | [],i,x,_=>by simp [Lg]
 | y :: ys,i,x,h=>by
  simp only [List.length_cons] at h
  rw [Lg,Ga (by unfold Rt; exact decide_eq_true (by omega)),IA r r1 j ys (i + 1) _ (by simp; omega)]
  unfold scS
  simp
def AB (r : Eh) (F : List Dt) : List Du:=(Uq r.Key F).map (scS (Yi (Rs r.Key F) []) r)
theorem rows_gd {F : List Dt} (h : FG F) (r : Eh) : GGd r.Key (decide (1 < r.Legs)) (AB r F):=by
 have hnd:=rank_nd r.Key F
 have hup:=rank_up r.Key F
 refine ⟨by unfold AB; rw [List.length_map]; have:=NO h r.Key; omega,fun x hx=>?_,?_,?_,?_⟩
 ·obtain ⟨y,hy,rfl⟩:=List.mem_map.1 hx
  obtain ⟨d,hd,e1,_,_,e4⟩:=EN h hy
  obtain ⟨d1,_⟩:=EM h hd
  obtain ⟨_,k2,k3⟩:=GT d1
  have hw:=(HY h k3 (by omega)).1
  have hc:=fg_club h k3 k2
  refine ⟨rfl,rfl,?_,?_,?_,?_⟩
  ·show y.Who ∈ EL
   rw [e1]
   unfold EL
   simp only [List.mem_cons,List.not_mem_nil,or_false] at hw ⊢
   rcases hw with hw | hw | hw | hw <;> simp [hw]
  ·show Ee _ y.Who An ∈ FU
   rw [e1,OT _ [] d hd (QV r.Key F)]
   unfold FU
   simp only [List.mem_cons,List.not_mem_nil,or_false] at hc ⊢
   rcases hc with hc | hc | hc <;> simp [hc]
  ·show 0 ≤ y.Rank
   omega
  ·show y.Rank ≤ 6
   omega
 ·unfold AB
  rw [List.pairwise_map]
  refine List.Pairwise.imp_of_mem (fun {a b} ha hb hab=>?_) hup
  rw [BK]
  refine .inr ⟨rfl,?_⟩
  obtain ⟨_,_,_,_,_,ea⟩:=EN h ha
  obtain ⟨_,_,_,_,_,eb⟩:=EN h hb
  show (if a.Rank = 0 then (301 : Int) else a.Rank) < (if b.Rank = 0 then (301 : Int) else b.Rank) ∨ ((if a.Rank = 0 then (301 : Int) else a.Rank) = (if b.Rank = 0 then (301 : Int) else b.Rank) ∧ cB a.Who b.Who < 0)
  rcases hab with ⟨h1,h2,h3,h4,h5,h6⟩ | ⟨h1,h2⟩ | ⟨h1,h2,h3⟩
  ·rw [if_neg (by omega),if_neg (by omega)]
   by_cases e : a.Rank = b.Rank
   ·exact .inr ⟨e,h6 (h5.1 e)⟩
   ·exact .inl (by omega)
  ·rw [if_neg (by omega),if_pos h2]
   exact .inl (by omega)
  ·rw [if_pos h1,if_pos h2]
   exact .inr ⟨rfl,h3⟩
 ·unfold AB
  rw [List.pairwise_map]
  exact List.pairwise_map.1 hnd
 ·intro a x b e hx
  unfold AB Uq Zb at e
  obtain ⟨l1,l2,he,ha,hxb⟩:=List.map_eq_append_iff.1 e
  obtain ⟨z,l3,hl2,hz,hb⟩:=List.map_eq_cons_iff.1 hxb
  subst hl2
  have hzr : 0 < z.Rank:=by rw [← hz] at hx; exact hx
  -- z stands among the good ones
  have hin : ∃ l4,rkF 0 0 0 (Qc DH (((Ny r.Key F (Rs r.Key F)).filter (isG (Xt r.Key F))).map (mkR (Xt r.Key F)))) = l1 ++ z :: l4:=by
   rcases List.append_eq_append_iff.1 he with ⟨c,h1,h2⟩ | ⟨c,h1,h2⟩
   ·exfalso
    have : z ∈ ((Ny r.Key F (Rs r.Key F)).filter fun s=>!isG (Xt r.Key F) s).map (mkR (Xt r.Key F)):=by rw [h2]; simp
    obtain ⟨s,_,rfl⟩:=List.mem_map.1 this
    simp [mkR] at hzr
   ·cases c with
    | nil =>
     exfalso
     rw [List.nil_append] at h2
     have : z ∈ ((Ny r.Key F (Rs r.Key F)).filter fun s=>!isG (Xt r.Key F) s).map (mkR (Xt r.Key F)):=by rw [← h2]; simp
     obtain ⟨s,_,rfl⟩:=List.mem_map.1 this
     simp [mkR] at hzr
    | cons c0 c =>
     simp only [List.cons_append,List.cons.injEq] at h2
     exact ⟨c,by rw [h1,h2.1]⟩
  obtain ⟨l4,hl4⟩:=hin
  have hal : a.length = l1.length:=by rw [← ha,List.length_map]
  have hzx : x.Rank = z.Rank:=by rw [← hz]; rfl
  rcases QU _ 0 0 0 l1 z l4 hl4 with h1 | ⟨_,_,h3⟩ | ⟨d,y,h1,h2⟩
  ·left; rw [hzx,h1,hal]; simp
  ·omega
  ·right
   refine ⟨d.map (scS (Yi (Rs r.Key F) []) r),scS (Yi (Rs r.Key F) []) r y,?_,?_⟩
   ·rw [← ha,h1,List.map_append]; rfl
   ·rw [hzx,← h2]; rfl
def LL (x y : Du) : Bool:=decide (Mx x y < 0)
theorem SG (l : List Du) (hl : l.length ≤ 19) : Gy l = some (Qc LL l):=by
 have hs : Ha l 0 (l.length : Int) = some (Qc LL l):=by
  unfold Ha
  simp only [Pe]
  have hins : ∀ (k : List Du → Option (List Du)) (rp : List Du) (x : Du) (post : List Du),((rp ++ x :: post).length : Int) = (l.length : Int) → (∀ y,y ∈ rp ∨ y = x ∨ y ∈ post → y ∈ (rp ++ x :: post)) →
    Em 0 k (((rp.length : Int) - 0).toNat + 2) (rp.reverse ++ x :: post) (rp.length : Int) = k ((Tm LL x rp).reverse ++ post):=by
   intro k rp x post h1 _
   exact MO (fun x y k=>k (LL x y)) LL k (Em 0 k) (fun _ _ _=>rfl) rp x post _ (by omega) (by simp at h1; omega) fun y _ k'=>rfl
  cases l with
  | nil=>rfl
  | cons x l =>
   have hw : W (0 + 1) = (([x] : List Du).length : Int):=rfl
   rw [hw]
   exact EH LL (fun x=>some x) (fun k x i=>Em 0 k ((i - 0).toNat + 2) x i) (Ez ((x :: l).length : Int) 0 fun x=>some x) ((x :: l).length : Int) (fun _ _ _=>rfl)
    (fun k rp x post h1 h2=>hins k rp x post h1 h2) l [x] _ (by simp only [List.length_cons,List.length_nil]; omega) (by simp only [List.length_cons,List.length_nil]; omega) (by simp only [List.length_cons,List.length_nil] at hl ⊢; omega)
 unfold Gy Je
 simp only [Pe]
 rw [Fv,if_neg (by simp; omega),hs]
 simp only [Option.bind_some]
 rw [Fw,if_neg (by simp; omega)]
 rfl
theorem ltRs_is (x y : Du) (hr : x.Race = y.Race) (hx : 0 ≤ x.Rank ∧ x.Rank ≤ 6) (hy : 0 ≤ y.Rank ∧ y.Rank ≤ 6) : LL x y = CM x y:=by
 unfold LL CM Mx
 apply decide_eq_decide.2
 have hk : ∀ z : Du,kR z = if z.Rank = 0 then 301 else z.Rank:=fun _=>rfl
 rw [hk,hk]
 simp only [hr,St,Int.lt_irrefl,true_and,false_or]
 by_cases h1 : x.Rank = 0 <;> by_cases h2 : y.Rank = 0
 ·rw [if_neg (by simp [h1,h2]),if_neg (by simp [h1,h2]),if_pos h1,if_pos h2]
  show cB x.Who y.Who < 0 ↔ _
  omega
 ·rw [if_pos (by simp [h1,h2]),Oc (by omega) (by omega),if_pos h1,if_neg h2]
  omega
 ·rw [if_pos (by simp [h1,h2]),Oc (by omega) (by omega),if_neg h1,if_pos h2]
  omega
 ·rw [if_neg (by simp [h1,h2]),if_neg h1,if_neg h2]
  by_cases h3 : x.Rank = y.Rank
  ·rw [if_neg (by simp [h3])]
   show cB x.Who y.Who < 0 ↔ _
   omega
  ·rw [if_pos (by simpa using h3),Oc (by omega) (by omega)]
   omega
theorem UI (x : Du) : CM x x = false:=by
 rw [← Bool.not_eq_true,BK,St,St]
 omega
theorem SH {race : ByteArray} {rel : Bool} {g : List Du} (h : GGd race rel g) : Gy g = some g:=by
 rw [SG g (by have:=h.len; omega),FT (lt:=LL) (lt':=CM) g fun x hx y hy=>ltRs_is x y ((h.row x hx).1.trans (h.row y hy).1.symm) (h.row x hx).2.2.2.2 (h.row y hy).2.2.2.2]
 congr 1
 exact MR UI OP g g (List.Pairwise.imp (fun {a b} (hab : CM a b = true) (_ : CM b a = false)=>hab) h.asc) h.asc fun _=>Iff.rfl
def SI (g : List Du) : List (List Du):=if g = [] then [] else [g]
theorem JY (g : List Du) : (SI g).flatten = g:=by
 unfold SI
 split
 ·rename_i h; rw [h]; rfl
 ·simp
theorem UJ {race : ByteArray} {rel : Bool} {g : List Du} (hr : race ∈ [Mv,Su,Uy]) (h : GGd race rel g) : LGd (SI g):=by
 refine ⟨fun g' hg'=>?_,?_,by rw [JY]; have:=h.len; omega⟩
 ·unfold SI at hg'
  split at hg'
  ·cases hg'
  ·rename_i hne
   rw [List.mem_singleton] at hg'
   subst hg'
   exact ⟨hne,race,rel,hr,h⟩
 ·unfold SI
  split <;> simp
def gvS (r : Eb) : Kq:=Kq.mk ((r.x_.Race ++ Pd) ++ r.x_.Who) r.points_
theorem UK {t : Lu} (ht : JU t) {race : ByteArray} {rel : Bool} {g : List Du} (hr : race ∈ [Mv,Su,Uy]) (h : GGd race rel g) : ∃ R,Ta t g = some R ∧ R.length ≤ 15 ∧ (∀ r ∈ R,Xs g r) ∧ Tj t g = some (R.map gvS,0):=by
 have hG:=UJ hr h
 have hb:=both_ok ht hG
 obtain ⟨R,h1,h2,h3⟩:=rows_is t ht.toTOk (SI g) hG.one hG.ne hG.len
 rw [JY] at hb h1 h3
 refine ⟨R,h1,h2,h3,?_⟩
 have hsz : ∀ x ∈ g,x.Race.size ≤ 40 ∧ x.Who.size ≤ 40:=fun x hx=>by
  obtain ⟨e1,_,e3,_⟩:=h.row x hx
  have k1 : ∀ s ∈ [Mv,Su,Uy],s.size ≤ 40:=by decide +kernel
  have k2 : ∀ s ∈ EL,s.size ≤ 40:=by decide +kernel
  exact ⟨by rw [e1]; exact k1 _ hr,k2 _ e3⟩
 have h20 : Pd.size = 1:=by decide +kernel
 unfold Tj
 rw [hb,Option.bind_some,if_neg (by simp),h1,Option.bind_some]
 simp only [Jy]
 have loop : ∀ (R : List Eb) (i : Nat) (x : List Kq),(∀ r ∈ R,r.x_ ∈ g) → x.length + R.length ≤ 1000 → Lx (fun (x1 : List Kq)=>some (x1,0)) R i x = some (x ++ R.map gvS,0):=by
  intro R
  induction R with
  | nil=>intro i x _ _; simp [Lx]
  | cons r R ih =>
   intro i x h1 h2
   simp only [List.length_cons] at h2
   obtain ⟨c1,c2⟩:=hsz r.x_ (h1 r List.mem_cons_self)
   rw [Lx,Ga (decide_eq_true (by omega)),Ga (decide_eq_true (by rw [ByteArray.size_append]; omega)),Ga (by unfold Rt; exact decide_eq_true (by omega)),ih _ _ (fun z hz=>h1 z (List.mem_cons_of_mem _ hz)) (by simp; omega)]
   simp [gvS]
 rw [loop R 0 [] (fun r hr=>(h3 r hr).1) (by simp; omega),List.nil_append]
def ofS (G : List Kq) (m : List (ByteArray × Ep)) : List (ByteArray × Ep):=G.foldl (fun m y=>Gj m y.Key y.Points) m
theorem IB (j : List (ByteArray × Ep) → Option (List Iw × Int)) : ∀ (G : List Kq) (i : Nat) (m : List (ByteArray × Ep)),Me j G i m = j (ofS G m)
 | [],_,_=>rfl
 | y :: G,i,m=>by rw [Me,IB j G (i + 1) _]; rfl
def ptS (m : List (ByteArray × Ep)) (k : ByteArray) : Ep:=if (Ur m k).isSome then Ee m k (Ep.mk 0 0) else Ep.mk 0 1
def QW (C : List (ByteArray × ByteArray)) (m : List (ByteArray × Ep)) (r : Eh) (y : Dw) : Iw:=Iw.mk y.Rank y.Who (Ee C y.Who An) y.Time y.Fault (ptS m ((r.Key ++ Pd) ++ y.Who))
theorem IC (r : Eh) (r1 : List Dw × List (ByteArray × ByteArray) × Int) (m : List (ByteArray × Ep)) (j : List Iw → Option (List Iw × Int)) (hk : r.Key.size ≤ 40) : ∀ (ys : List Dw) (i : Nat) (x : List Iw),(∀ y ∈ ys,y.Who.size ≤ 40) → x.length + ys.length ≤ 1000 → Lh r r1 m j ys i x = j (x ++ ys.map (QW r1.2.1 m r))
 | [],i,x,_,_=>by simp [Lh]
 | y :: ys,i,x,hw,h=>by
  simp only [List.length_cons] at h
  have h20 : Pd.size = 1:=by decide +kernel
  have hy:=hw y List.mem_cons_self
  rw [Lh,Ga (decide_eq_true (by omega)),Ga (decide_eq_true (by rw [ByteArray.size_append]; omega))]
  simp only [Pe]
  have hroom : Rt x.length = true:=by unfold Rt; exact decide_eq_true (by omega)
  have hfin:=IC r r1 m j hk ys (i + 1) (x ++ [QW r1.2.1 m r y]) (fun z hz=>hw z (List.mem_cons_of_mem _ hz)) (by simp; omega)
  have hl : QW r1.2.1 m r y = Iw.mk y.Rank y.Who (Ee r1.2.1 y.Who An) y.Time y.Fault (ptS m ((r.Key ++ Pd) ++ y.Who)):=rfl
  have hp : ptS m ((r.Key ++ Pd) ++ y.Who) = if (Ur m ((r.Key ++ Pd) ++ y.Who)).isSome then Ee m ((r.Key ++ Pd) ++ y.Who) (Ep.mk 0 0) else Ep.mk 0 1:=rfl
  cases hc : (Ur m ((r.Key ++ Pd) ++ y.Who)).isSome with
  | true =>
   rw [hc,if_pos rfl] at hp
   rw [if_neg (by simp),Ga hroom]
   rw [hl,hp] at hfin
   rw [hfin,List.map_cons,hl,hp]
   simp
  | false =>
   rw [hc,if_neg (by simp)] at hp
   rw [if_pos (by simp),Ga hroom]
   rw [hl,hp] at hfin
   rw [hfin,List.map_cons,hl,hp]
   simp
theorem ID {p : Mp} (hp : CR p) {F : List Dt} (h : FG F) {r : Eh} (hr : r ∈ p.Races) : ∃ R,Ta p.Table (AB r F) = some R ∧ R.length ≤ 15 ∧ (∀ x ∈ R,Xs (AB r F) x) ∧ Tj p.Table (AB r F) = some (R.map gvS,0) ∧
  Ob p F r = some ((Uq r.Key F).map (QW (Yi (Rs r.Key F) []) (ofS (R.map gvS) []) r),0):=by
 have hkey:=(hp.races r hr).2
 have hg:=rows_gd h r
 obtain ⟨R,h1,h2,h3,h4⟩:=UK hp.table hkey hg
 refine ⟨R,h1,h2,h3,h4,?_⟩
 have hlen:=NO h r.Key
 have k1 : ∀ s ∈ [Mv,Su,Uy],s.size ≤ 40:=by decide +kernel
 have k2 : ∀ s ∈ [Ok,AO,AP,AQ],s.size ≤ 40:=by decide +kernel
 have hw : ∀ y ∈ Uq r.Key F,y.Who.size ≤ 40:=fun y hy=>by
  obtain ⟨d,hd,e1,_⟩:=EN h hy
  obtain ⟨_,k3,k4⟩:=GT (EM h hd).1
  rw [e1]
  exact k2 _ (HY h k4 (by omega)).1
 unfold Ob
 rw [SF h p r.Key]
 simp only [Option.bind_some,decide_true,Bool.not_true,Bool.false_eq_true,if_false,Pe]
 rw [IA r _ _ (Uq r.Key F) 0 [] (by simp; omega),List.nil_append]
 have hs:=SH hg
 show Option.bind (Gy (AB r F)) _ = _
 rw [hs]
 simp only [Option.bind_some]
 rw [h4]
 simp only [Option.bind_some,decide_true,Bool.not_true,Bool.false_eq_true,if_false]
 rw [IB,IC r _ _ _ (k1 _ hkey) (Uq r.Key F) 0 [] hw (by simp; omega),List.nil_append]
end Go.Proofs.YtjlcjcabljbolaaGreatDoor
/- A right meet that is asked. Conditions: a right plan,right deeds with few names. No program stands here but its twins. -/
namespace Go.Proofs.YtjlcjcabljbolaaGreatDoor
open Go
structure LG (l : List Dt) : Prop where
 ok : DsG l
 names : ∀ d ∈ l,d.Who ∈ DK ∧ d.Club ∈ Wx
 len : l.length ≤ 40
theorem LG.facts {l : List Dt} (h : LG l) (at_ : Int) : FG (Sm l at_) :=
 ⟨fun d hd=>⟨h.ok.each d ((DI l at_).subset hd),h.names d ((DI l at_).subset hd)⟩,Nat.le_trans (DI l at_).length_le h.len⟩
theorem UL (j : Option (Option Kd × Int)) : ∀ (ats : List Int) (i : Nat),(∀ a ∈ ats,Ik a = true) → Oq j ats i = j
 | [],_,_=>rfl
 | a :: ats,i,h=>by
  rw [Oq,h a List.mem_cons_self,if_neg (by simp)]
  exact UL j ats (i + 1) fun b hb=>h b (List.mem_cons_of_mem _ hb)
theorem open_is {p : Mp} (hp : CR p) {l : List Dt} (h : LG l) (ats : List Int) (a : Int) (hm : ∀ b ∈ ats ++ [a],Ik b = true) (hl : ats.length ≤ 1000) : Yr p l (ats ++ [a]) = some (some (Kd.mk p (Sm l a)),0):=by
 have hlen:=h.len
 have hn : nth (ats ++ [a]) (W ((((ats ++ [a]).length : Nat) : Int) - 1)) = a:=by
  rw [List.length_append,List.length_singleton,Oc (by omega) (by omega)]
  exact Vs ats a [] (by omega)
 have hi : inB (W ((((ats ++ [a]).length : Nat) : Int) - 1)) (ats ++ [a]).length = true:=by
  rw [List.length_append,List.length_singleton,Oc (by omega) (by omega)]
  exact Jb.2 (by omega)
 unfold Yr
 rw [LJ hp]
 simp only [Option.bind_some,decide_true,Bool.not_true,Bool.false_eq_true,if_false]
 rw [h.ok.chk]
 simp only [Option.bind_some,decide_true,Bool.not_true,Bool.false_eq_true,if_false,Pe]
 rw [UL _ _ 0 hm,Ga hi,hn,HR p l a (by omega)]
 rfl
theorem UM (key : ByteArray) : ∀ (l : List Eh) (i : Nat),(l.map (·.Key)).Nodup → ∀ r ∈ l,r.Key = key → ∃ k : Nat,Gg key (-1) l i = ((i + k : Nat) : Int) ∧ l[k]? = some r
 | [],_,_,r,h,_=>by cases h
 | x :: l,i,hn,r,h,hk=>by
  rw [Gg]
  unfold We
  simp only [List.map_cons,List.nodup_cons] at hn
  by_cases hx : x.Key = key
  ·rw [if_pos (decide_eq_true hx)]
   rcases List.mem_cons.1 h with rfl | h
   ·exact ⟨0,by simp,rfl⟩
   ·exact absurd (List.mem_map_of_mem (f:=(·.Key)) h) (by rw [hk,← hx]; exact hn.1)
  ·rw [if_neg (by simpa using hx)]
   rcases List.mem_cons.1 h with rfl | h
   ·exact absurd hk hx
   ·obtain ⟨k,e1,e2⟩:=UM key l (i + 1) hn.2 r h hk
    exact ⟨k + 1,by rw [e1]; congr 1; omega,by simpa using e2⟩
theorem OU {p : Mp} (hp : CR p) {F : List Dt} (h : FG F) {r : Eh} (hr : r ∈ p.Races) : Xl p F r.Key = some (r,0):=by
 obtain ⟨k,e1,e2⟩:=UM r.Key p.Races 0 hp.keys r hr rfl
 have hidx : Gh p.Races r.Key = (k : Int):=by
  unfold Gh
  rw [Pe,e1]
  simp
 have hk : k < p.Races.length:=by
  rcases Nat.lt_or_ge k p.Races.length with h | h
  ·exact h
  ·rw [List.getElem?_eq_none h] at e2; cases e2
 have hf:=GU h r.Key
 have hnth : nth p.Races (k : Int) = r:=by unfold nth; simp [List.getD,e2]
 unfold Xl
 rw [hidx,if_neg (by simp),UH h]
 simp only [Option.bind_some]
 rw [if_neg (by rw [HU]; simp; omega),Ga (Jb.2 (by omega)),hnth]
theorem all_l {p : Mp} (hp : CR p) {F : List Dt} (h : FG F) (j : Option Int) : ∀ (ys : List Eh) (i : Nat),(∀ r ∈ ys,r ∈ p.Races) → Ot p F j ys i = j
 | [],_,_=>rfl
 | r :: ys,i,hy=>by
  rw [Ot,OU hp h (hy r List.mem_cons_self)]
  simp only [Option.bind_some,decide_true,Bool.not_true,Bool.false_eq_true,if_false]
  exact all_l hp h j ys (i + 1) fun z hz=>hy z (List.mem_cons_of_mem _ hz)
theorem UN {p : Mp} (hp : CR p) {F : List Dt} (h : FG F) : Xe p F = some 0:=by
 unfold Xe
 rw [Pe]
 exact all_l hp h _ p.Races 0 fun _ hr=>hr
theorem LG.of {x : List Dt} (h : DsG x) (hn : ∀ d ∈ x,FV d) (hl : x.length ≤ 40) : LG x:=⟨h,fun d hd=>⟨(hn d hd).who,(hn d hd).club⟩,hl⟩
end Go.Proofs.YtjlcjcabljbolaaGreatDoor
/- What the program does at a few given inputs. No program stands here but its twins. -/
namespace Go.Proofs.YtjlcjcabljbolaaGreatDoor
open Go
theorem UO : Ug = some true:=by decide +kernel
end Go.Proofs.YtjlcjcabljbolaaGreatDoor
namespace Go.Proofs.YtjlcjcabljbolaaGreatDoor
open Go
def dU : Dt:=Dt.mk Ix 1 500 3 Ok An Mv 5000 0 An 0
def uU : Dt:=Dt.mk Ix 2 501 4 An An An 0 0 Ix 1
def rU : Dt:=Dt.mk Ix 3 502 4 An An An 0 0 Ix 2
theorem dg3 : DG dU ∧ DG uU ∧ DG rU:=by
 refine ⟨?_,?_,?_⟩
 ·obtain ⟨e,h1,_,h3⟩:=BY dU
  have : Nd dU = some 0:=by decide +kernel
  exact h3 (Option.some.inj (h1.symm.trans this))
 ·obtain ⟨e,h1,_,h3⟩:=BY uU
  have : Nd uU = some 0:=by decide +kernel
  exact h3 (Option.some.inj (h1.symm.trans this))
 ·obtain ⟨e,h1,_,h3⟩:=BY rU
  have : Nd rU = some 0:=by decide +kernel
  exact h3 (Option.some.inj (h1.symm.trans this))
theorem UP {s : ByteArray} (h : s ∈ Wp) : s ≠ Ix:=by
 have key : ∀ s ∈ Wp,s ≠ Ix:=by decide +kernel
 exact key s h
theorem all_LG {x : List Dt} (h : DsG x) (hn : ∀ d ∈ x,FV d) (hl : x.length ≤ 16) : LG (x ++ [dU,uU,rU]):=by
 obtain ⟨g1,g2,g3⟩:=dg3
 have h3 : [dU,uU,rU].Pairwise fun a b=>ltD a b = true:=by decide +kernel
 have hp3 : ([dU,uU,rU].map Ek).Nodup:=by decide +kernel
 have hat : ∀ b ∈ [dU,uU,rU],500 ≤ b.At ∧ b.Site = Ix:=by decide +kernel
 refine ⟨⟨by simp; omega,fun d hd=>?_,PZ ?_,?_⟩,fun d hd=>?_,by simp; omega⟩
 ·rcases List.mem_append.1 hd with hd | hd
  ·exact h.each d hd
  ·simp only [List.mem_cons,List.not_mem_nil,or_false] at hd
   rcases hd with rfl | rfl | rfl
   ·exact g1
   ·exact g2
   ·exact g3
 ·rw [List.pairwise_append]
  refine ⟨h.adj.up,h3,fun a ha b hb=>?_⟩
  rw [PY]
  have h1:=(hn a ha).at_
  have h2:=(hat b hb).1
  exact .inl (by omega)
 ·rw [List.map_append,List.nodup_append]
  refine ⟨h.nodup,hp3,fun a ha b hb e=>?_⟩
  obtain ⟨u,hu,rfl⟩:=List.mem_map.1 ha
  obtain ⟨v,hv,rfl⟩:=List.mem_map.1 hb
  have h1:=UP (hn u hu).site
  have h2:=(hat v hv).2
  have e' : u.Site = v.Site:=congrArg Eg.site_ e
  exact h1 (e'.trans h2)
 ·rcases List.mem_append.1 hd with hd | hd
  ·exact ⟨(hn d hd).who,(hn d hd).club⟩
  ·simp only [List.mem_cons,List.not_mem_nil,or_false] at hd
   rcases hd with rfl | rfl | rfl <;> simp [dU,uU,rU,DK,Wx]
theorem Yj (a b : Int) : ∀ (l : List Dt) (m m' : List (Eg × Bool)),(∀ d ∈ l,d.At ≤ a ∧ d.At ≤ b ∧ d.Site ≠ Ix) → (∀ e : Eg,e.site_ ≠ Ix → Ee m e false = Ee m' e false) → Rv a l m = Rv b l m'
 | [],_,_,_,_=>rfl
 | d :: l,m,m',h,hm=>by
  obtain ⟨h1,h2,h3⟩:=h d List.mem_cons_self
  have ih:=fun m m' hm=>Yj a b l m m' (fun z hz=>h z (List.mem_cons_of_mem _ hz)) hm
  rw [Rv,Rv,decide_eq_false (show ¬ a < d.At by omega),decide_eq_false (show ¬ b < d.At by omega),hm (Ek d) h3]
  split
  ·exact ih m m' hm
  ·congr 1
   refine ih _ _ fun e he=>?_
   by_cases hk : d.Kind = 4
   ·rw [if_pos (decide_eq_true hk),if_pos (decide_eq_true hk),Tl,Tl,hm e he]
   ·rw [if_neg (by simpa using hk),if_neg (by simpa using hk)]
    exact hm e he
theorem UQ {x : List Dt} (hn : ∀ d ∈ x,FV d) : ∃ y : List Dt,Sm (x ++ [dU,uU,rU]) 499 = y ∧ Sm (x ++ [dU,uU,rU]) 500 = y ++ [dU] ∧ Sm (x ++ [dU,uU,rU]) 501 = y ++ [uU] ∧ Sm (x ++ [dU,uU,rU]) 502 = y ++ [dU,rU]:=by
 have hr : (x ++ [dU,uU,rU]).reverse = rU :: uU :: dU :: x.reverse:=by simp
 have hx : ∀ a b : Int,100 ≤ a → 100 ≤ b → ∀ d ∈ x.reverse,d.At ≤ a ∧ d.At ≤ b ∧ d.Site ≠ Ix:=fun a b ha hb d hd=>by
  have n:=hn d (List.mem_reverse.1 hd)
  have:=n.at_
  exact ⟨by omega,by omega,UP n.site⟩
 have p1 : (decide ((499 : Int) < rU.At) || Ee ([] : List (Eg × Bool)) (Ek rU) false) = true:=by decide +kernel
 have p2 : (decide ((499 : Int) < uU.At) || Ee ([] : List (Eg × Bool)) (Ek uU) false) = true:=by decide +kernel
 have p3 : (decide ((499 : Int) < dU.At) || Ee ([] : List (Eg × Bool)) (Ek dU) false) = true:=by decide +kernel
 have q1 : (decide ((500 : Int) < rU.At) || Ee ([] : List (Eg × Bool)) (Ek rU) false) = true:=by decide +kernel
 have q2 : (decide ((500 : Int) < uU.At) || Ee ([] : List (Eg × Bool)) (Ek uU) false) = true:=by decide +kernel
 have q3 : (decide ((500 : Int) < dU.At) || Ee ([] : List (Eg × Bool)) (Ek dU) false) = false:=by decide +kernel
 have s1 : (decide ((501 : Int) < rU.At) || Ee ([] : List (Eg × Bool)) (Ek rU) false) = true:=by decide +kernel
 have s2 : (decide ((501 : Int) < uU.At) || Ee ([] : List (Eg × Bool)) (Ek uU) false) = false:=by decide +kernel
 have s3 : (decide ((501 : Int) < dU.At) || Ee (Gj ([] : List (Eg × Bool)) (Eg.mk uU.Of uU.Other) true) (Ek dU) false) = true:=by decide +kernel
 have t1 : (decide ((502 : Int) < rU.At) || Ee ([] : List (Eg × Bool)) (Ek rU) false) = false:=by decide +kernel
 have t2 : (decide ((502 : Int) < uU.At) || Ee (Gj ([] : List (Eg × Bool)) (Eg.mk rU.Of rU.Other) true) (Ek uU) false) = true:=by decide +kernel
 have t3 : (decide ((502 : Int) < dU.At) || Ee (Gj ([] : List (Eg × Bool)) (Eg.mk rU.Of rU.Other) true) (Ek dU) false) = false:=by decide +kernel
 have k1 : decide (dU.Kind = 4) = false:=by decide
 have k2 : decide (uU.Kind = 4) = true:=by decide
 have k3 : decide (rU.Kind = 4) = true:=by decide
 refine ⟨(Rv 499 x.reverse []).reverse,?_,?_,?_,?_⟩
 ·unfold Sm
  rw [hr,Rv,if_pos p1,Rv,if_pos p2,Rv,if_pos p3]
 ·unfold Sm
  rw [hr,Rv,if_pos q1,Rv,if_pos q2,Rv,if_neg (by rw [q3]; simp),k1,if_neg (by simp),List.reverse_cons,Yj 500 499 x.reverse [] [] (hx _ _ (by omega) (by omega)) fun _ _=>rfl]
 ·unfold Sm
  rw [hr,Rv,if_pos s1,Rv,if_neg (by rw [s2]; simp),k2,if_pos rfl,Rv,if_pos s3,List.reverse_cons,Yj 501 499 x.reverse _ [] (hx _ _ (by omega) (by omega)) fun e he=>by
   rw [Tl,if_neg (fun h=>he (by rw [h]; rfl))]]
 ·unfold Sm
  rw [hr,Rv,if_neg (by rw [t1]; simp),k3,if_pos rfl,Rv,if_pos t2,Rv,if_neg (by rw [t3]; simp),k1,if_neg (by simp),List.reverse_cons,List.reverse_cons,Yj 502 499 x.reverse _ [] (hx _ _ (by omega) (by omega)) fun e he=>by
   rw [Tl,if_neg (fun h=>he (by rw [h]; rfl))]]
  simp
theorem JZ (race : ByteArray) (l : List Dt) (d : Dt) (h : d.Race ≠ race) : Zd race (l ++ [d]) = Zd race l ∧ swM race (l ++ [d]) = swM race l:=by
 have e1 : FM race (l ++ [d]) = FM race l:=by
  unfold FM
  rw [List.foldl_append]
  show ON race _ d = _
  unfold ON
  rw [if_neg h]
 refine ⟨by unfold Zd; rw [e1],?_⟩
 unfold swM
 rw [List.foldl_append]
 show swS race _ d = _
 unfold swS
 rw [decide_eq_false h,Bool.false_and,if_neg (by simp)]
theorem SJ {F F' : List Dt} (r : Eh) (h1 : Zd r.Key F = Zd r.Key F') (h2 : swM r.Key F = swM r.Key F') : Rs r.Key F = Rs r.Key F' ∧ Uq r.Key F = Uq r.Key F' ∧ AB r F = AB r F':=by
 have hh : IP r.Key F = IP r.Key F':=by unfold IP; rw [h2]
 have hv : svS r.Key F = svS r.Key F':=by unfold svS; rw [h2]
 have hs : Rs r.Key F = Rs r.Key F':=by unfold Rs; rw [h1,hh]
 have hq : ∀ H,Ny r.Key F H = Ny r.Key F' H:=fun H=>by unfold Ny; rw [hv]
 have hw : ∀ H,Wy r.Key F H = Wy r.Key F' H:=fun H=>by unfold Wy; rw [hv]
 have hf : Xt r.Key F = Xt r.Key F':=by unfold Xt; rw [hw,hs]
 have hr : Uq r.Key F = Uq r.Key F':=by unfold Uq; rw [hf,hq,hs]
 exact ⟨hs,hr,by unfold AB; rw [hr,hs]⟩
theorem LM {p : Mp} (hp : CR p) {F F' : List Dt} (h : FG F) (h' : FG F') {r : Eh} (hr : r ∈ p.Races) (h1 : Zd r.Key F = Zd r.Key F') (h2 : swM r.Key F = swM r.Key F') : ∃ lines,Ob p F r = some (lines,0) ∧ Ob p F' r = some (lines,0):=by
 obtain ⟨e1,e2,e3⟩:=SJ r h1 h2
 obtain ⟨R,a1,_,_,_,a5⟩:=ID hp h hr
 obtain ⟨R',b1,_,_,_,b5⟩:=ID hp h' hr
 rw [← e3,a1] at b1
 obtain rfl:=Option.some.inj b1
 rw [← e1,← e2] at b5
 exact ⟨_,a5,b5⟩
theorem SK (l : List Iw) : Qq l l = some true:=by
 unfold Qq
 rw [if_neg (by simp),Pe]
 exact eq_l l (Ko l (some true)) (fun _=>rfl) (fun _ _ _=>rfl) l [] rfl
theorem KA {s t : Kd} (j : List ByteArray → Option (List ByteArray × Int)) : ∀ (ys : List Eh) (i : Nat) (x : List ByteArray),(∀ r ∈ ys,∃ lines,Ob s.p_ s.deeds_ r = some (lines,0) ∧ Ob t.p_ t.deeds_ r = some (lines,0)) → Mu s t j ys i x = j x
 | [],_,_,_=>rfl
 | r :: ys,i,x,h=>by
  obtain ⟨lines,e1,e2⟩:=h r List.mem_cons_self
  rw [Mu]
  simp only [Pe]
  rw [e1]
  simp only [Option.bind_some,decide_true,Bool.not_true,Bool.false_eq_true,if_false]
  rw [e2]
  simp only [Option.bind_some,decide_true,Bool.not_true,Bool.false_eq_true,if_false]
  rw [SK]
  simp only [Option.bind_some,Bool.not_true,Bool.false_eq_true,if_false]
  exact KA j ys (i + 1) x fun z hz=>h z (List.mem_cons_of_mem _ hz)
theorem EO {p : Mp} (hp : CR p) {l : List Dt} (h : LG l) (a b : Int) (ha : Ik a = true) (hb : Ik b = true) (hs : ∀ r ∈ p.Races,Zd r.Key (Sm l a) = Zd r.Key (Sm l b) ∧ swM r.Key (Sm l a) = swM r.Key (Sm l b)) : Qr p l a b = some ([],0):=by
 have ho:=open_is hp h [a] b (by intro c hc; simp only [List.cons_append,List.nil_append,List.mem_cons,List.not_mem_nil,or_false] at hc; rcases hc with rfl | rfl; exact ha; exact hb) (by simp)
 have hlen:=h.len
 unfold Qr
 rw [show [a,b] = [a] ++ [b] from rfl,ho]
 simp only [Option.bind_some,decide_true,Bool.not_true,Bool.false_eq_true,if_false]
 rw [HR p l a (by omega)]
 simp only [Option.bind_some]
 rw [UN hp (h.facts a)]
 simp only [Option.bind_some,decide_true,Bool.not_true,Bool.false_eq_true,if_false]
 rw [UN hp (h.facts b)]
 simp only [Option.bind_some,decide_true,Bool.not_true,Bool.false_eq_true,if_false,Pe]
 rw [KA _ p.Races 0 [] fun r hr=>LM hp (h.facts a) (h.facts b) hr (hs r hr).1 (hs r hr).2]
theorem plain_UndoneIsNothing (l : List Int) (hl : l.length ≤ 9223372036854775807) : Ol l = some true:=by
 have hL : EJ l:=by unfold EJ; omega
 obtain ⟨p,a1,e1,p1,q1,hp⟩:=UF hL (a:=0) (by omega) (by omega)
 obtain ⟨n,a2,e2,p2,q2,n1,n2⟩:=Za hL (a:=a1) (by omega) (by omega) 0 12 (by omega) (by omega) (by omega)
 obtain ⟨x,a3,e3,p3,q3,x1,x2,x3⟩:=SB hL n (by omega) (by omega) (a:=a2) (by omega) (by omega)
 have hA:=all_LG x2 x3 (by omega)
 obtain ⟨y,f1,f2,f3,f4⟩:=UQ x3
 have hm : ∀ a ∈ [(499 : Int),500,501,502],Ik a = true:=by decide
 have hra : ∀ r ∈ p.Races,An ≠ r.Key:=fun r hr=>by
  have key : ∀ s ∈ [Mv,Su,Uy],An ≠ s:=by decide +kernel
  exact key _ (hp.races r hr).2
 have c1:=EO hp hA 499 501 (hm _ (by simp)) (hm _ (by simp)) fun r hr=>by
  obtain ⟨h1,h2⟩:=JZ r.Key y uU (hra r hr)
  rw [f1,f3]
  exact ⟨h1.symm,h2.symm⟩
 have c2:=EO hp hA 500 502 (hm _ (by simp)) (hm _ (by simp)) fun r hr=>by
  obtain ⟨h1,h2⟩:=JZ r.Key (y ++ [dU]) rU (hra r hr)
  rw [f2,f4,show y ++ [dU,rU] = (y ++ [dU]) ++ [rU] by simp]
  exact ⟨h1.symm,h2.symm⟩
 have hz : Ic [0,0] = 0:=by decide +kernel
 unfold Ol
 rw [e1]; simp only [Option.bind_some]
 rw [e2]; simp only [Option.bind_some]
 rw [e3]; simp only [Option.bind_some,Pe]
 unfold Sp
 rw [Ga (decide_eq_true (by simp; omega))]
 simp only [Option.bind_some,List.nil_append]
 rw [Ga (by unfold Rt; exact decide_eq_true (by omega))]
 show Option.bind (Qr p (x ++ [dU,uU,rU]) 499 501) _ = _
 rw [c1]
 simp only [Option.bind_some]
 show Option.bind (Qr p (x ++ [dU,uU,rU]) 500 502) _ = _
 rw [c2]
 simp only [Option.bind_some,hz,decide_true,List.length_nil,Bool.and_self,Bool.true_and,if_true,UO,Int.natCast_zero]
end Go.Proofs.YtjlcjcabljbolaaGreatDoor
