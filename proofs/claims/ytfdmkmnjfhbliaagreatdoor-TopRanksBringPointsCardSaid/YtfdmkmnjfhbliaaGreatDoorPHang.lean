/- Lines of results: their points,and who is missing. Conditions: a right plan,right deeds with few names. No program stands here but its twins. -/
import Derived.Test.YtfdmkmnjfhbliaaGreatDoorPPlan
import Derived.Test.YtfdmkmnjfhbliaaGreatDoorPMeetSort
/- Ranks that the stream gives pass the program's check. No program stands here but its twins. -/
namespace Go.Proofs.YtfdmkmnjfhbliaaGreatDoor
open Go
def YF (g : List Dj) : Prop:=∀ a x b,g = a ++ x :: b → 0 < x.Rank → x.Rank = (a.length : Int) + 1 ∨ ∃ d y,a = d ++ [y] ∧ y.Rank = x.Rank
structure GGd (race : ByteArray) (rel : Bool) (g : List Dj) : Prop where
 len : g.length ≤ 5
 row : ∀ x ∈ g,x.Race = race ∧ x.Relay = rel ∧ x.Who ∈ GV ∧ x.Club ∈ EX ∧ 0 ≤ x.Rank ∧ x.Rank ≤ 6
 asc : g.Pairwise fun x y=>EO x y = true
 who : g.Pairwise fun x y=>x.Who ≠ y.Who
 rank : YF g
structure LGd (Gs : List (List Dj)) : Prop where
 grp : ∀ g ∈ Gs,g ≠ [] ∧ ∃ race rel,race ∈ KP ∧ GGd race rel g
 diff : Gs.Pairwise fun g g'=>∀ x ∈ g,∀ y ∈ g',cB x.Race y.Race < 0
 len : Gs.flatten.length ≤ 15
theorem LGd.one {Gs : List (List Dj)} (h : LGd Gs) : ∀ g ∈ Gs,One g ∧ g.length ≤ 5:=fun g hg=>by
 obtain ⟨h1,race,rel,_,h2⟩:=h.grp g hg
 exact ⟨⟨h1,fun x hx y hy=>by rw [(h2.row x hx).1,(h2.row y hy).1]⟩,h2.len⟩
theorem LGd.ne {Gs : List (List Dj)} (h : LGd Gs) : Gs.Pairwise fun g g'=>∀ x ∈ g,∀ y ∈ g',x.Race ≠ y.Race :=
 h.diff.imp fun hd x hx y hy e=>by have:=hd x hx y hy; rw [e,Tv] at this; omega
theorem LGd.row {Gs : List (List Dj)} (h : LGd Gs) : ∀ x ∈ Gs.flatten,x.Race ∈ KP ∧ x.Who ∈ GV ∧ x.Club ∈ EX ∧ 0 ≤ x.Rank ∧ x.Rank ≤ 6:=fun x hx=>by
 obtain ⟨g,hg,hx⟩:=List.mem_flatten.1 hx
 obtain ⟨_,race,rel,hr,h2⟩:=h.grp g hg
 obtain ⟨r1,_,r3,r4,r5⟩:=h2.row x hx
 exact ⟨by rw [r1]; exact hr,r3,r4,r5⟩
theorem LGd.asc {Gs : List (List Dj)} (h : LGd Gs) : Gs.flatten.Pairwise fun x y=>EO x y = true:=by
 rw [List.pairwise_flatten]
 refine ⟨fun g hg=>?_,h.diff.imp fun hd x hx y hy=>DR.2 (.inl (hd x hx y hy))⟩
 obtain ⟨_,race,rel,_,h2⟩:=h.grp g hg
 exact h2.asc
theorem LGd.who {Gs : List (List Dj)} (h : LGd Gs) : Gs.flatten.Pairwise fun x y=>¬ (x.Race = y.Race ∧ x.Who = y.Who):=by
 rw [List.pairwise_flatten]
 refine ⟨fun g hg=>?_,h.ne.imp fun hd x hx y hy e=>hd x hx y hy e.1⟩
 obtain ⟨_,race,rel,_,h2⟩:=h.grp g hg
 exact h2.who.imp fun hne e=>hne e.2
theorem keyP {s : ByteArray} (h : s ∈ KP ∨ s ∈ GV ∨ (s ∈ EX ∧ s ≠ An)) : Hk s = some true:=by
 simp only [KP,GV,EX,List.mem_cons,List.not_mem_nil,or_false] at h
 rcases h with (rfl | rfl | rfl) | (rfl | rfl | rfl | rfl | rfl) | ⟨rfl | rfl | rfl | rfl | rfl,hn⟩
 any_goals (decide +kernel)
 exact (hn rfl).elim
theorem QF {x y : Dj} (hx : 0 ≤ x.Rank ∧ x.Rank ≤ 6) (hy : 0 ≤ y.Rank ∧ y.Rank ≤ 6) (h : EO x y = true) : Te x y < 0:=by
 have hc : Hl x.Race y.Race = cB x.Race y.Race:=rfl
 have hw : Hl x.Who y.Who = cB x.Who y.Who:=rfl
 have hor : ∀ a b c : Int,Ux [a,b,c] = if a ≠ 0 then a else if b ≠ 0 then b else c:=fun a b c=>by
  unfold Ux
  simp only [Jl]
  rw [Mz,Mz,Mz,Mz]
  by_cases h1 : a = 0
  ·by_cases h2 : b = 0
   ·by_cases h3 : c = 0
    ·simp [h1,h2,h3]
    ·simp [h1,h2,h3]
   ·simp [h1,h2]
  ·simp [h1]
 have hk : Ly x.Rank y.Rank = kR x - kR y:=by
  have k1:=@YB x ⟨hx.1,by omega⟩
  have k2:=@YB y ⟨hy.1,by omega⟩
  unfold Ly
  simp only [Jl]
  have e : kR x - kR y = W (kR x - kR y):=(Oj (by omega) (by omega)).symm
  rw [e]
  unfold kR
  by_cases a : x.Rank = 0
  ·by_cases b : y.Rank = 0
   ·simp [a,b]
   ·simp [a,b]
  ·by_cases b : y.Rank = 0
   ·simp [a,b]
   ·simp [a,b]
 unfold Te
 rw [hc,hw,hk,hor]
 rw [DR] at h
 rcases h with h | ⟨e,h⟩
 ·rw [if_pos (by omega)]; exact h
 ·rw [e,Tv,if_neg (by simp)]
  rcases h with h | ⟨k,h⟩
  ·rw [if_pos (by omega)]; omega
  ·rw [if_neg (by omega)]; exact h
theorem UK (j : List (Fo × Bool) → Option Int) (l : List Dj) (hw : l.Pairwise fun x y=>¬ (x.Race = y.Race ∧ x.Who = y.Who)) : ∀ (ys dn : List Dj) (m : List (Fo × Bool)),l = dn ++ ys → (∀ e,Ec m e false = true → ∃ x ∈ dn,e = Fo.mk x.Race x.Who) →
  ∃ m',Lt j ys dn.length m = j m'
 | [],dn,m,_,_=>⟨m,rfl⟩
 | y :: ys,dn,m,h1,h2=>by
  have hno : Ec m (Fo.mk y.Race y.Who) false = false:=by
   cases hm : Ec m (Fo.mk y.Race y.Who) false with
   | false=>rfl
   | true =>
    obtain ⟨x,hx,e⟩:=h2 _ hm
    rw [h1,List.pairwise_append] at hw
    injection e with e1 e2
    exact (hw.2.2 x hx y List.mem_cons_self ⟨e1.symm,e2.symm⟩).elim
  rw [Lt,hno,if_neg (by simp)]
  obtain ⟨m',e⟩:=UK j l hw ys (dn ++ [y]) (Gk m (Fo.mk y.Race y.Who) true) (by rw [h1]; simp) (fun e he=>by
   rw [Yd] at he
   split at he
   ·rename_i hk; exact ⟨y,by simp,hk⟩
   ·obtain ⟨x,hx,e'⟩:=h2 e he; exact ⟨x,by simp [hx],e'⟩)
  rw [List.length_append,List.length_singleton] at e
  exact ⟨m',e⟩
theorem UL (g : List Dj) (g0 : Dj) (hg0 : nth g 0 = g0) (hin : inB 0 g.length = true) : ∀ (ys : List Dj) (i : Nat),(∀ y ∈ ys,y.Relay = g0.Relay) → Fv g (some (-1)) ys i = some (-1)
 | [],_,_=>rfl
 | y :: ys,i,h=>by
  rw [Fv]
  unfold Tr
  rw [Gb hin,hg0,h y List.mem_cons_self]
  simp only [decide_true,Bool.not_true,Option.bind_some,Bool.false_eq_true,if_false]
  exact UL g g0 hg0 hin ys (i + 1) fun z hz=>h z (List.mem_cons_of_mem _ hz)
theorem QG (j : Option Int) : ∀ (Gs : List (List Dj)) (i : Nat),(∀ g ∈ Gs,g ≠ [] ∧ ∃ race rel,race ∈ KP ∧ GGd race rel g) → Ky j Gs i = j
 | [],_,_=>rfl
 | g :: Gs,i,h=>by
  obtain ⟨h1,race,rel,_,h2⟩:=h g List.mem_cons_self
  rw [Ky]
  unfold Ka Kq
  simp only [Jl]
  have hp:=List.length_pos_iff.2 h1
  have hin : inB 0 g.length = true:=Jz.2 (by omega)
  have hm : nth g 0 ∈ g:=List.mem_of_getElem? (Dw hin).1
  rw [UL g (nth g 0) rfl hin g 0 fun y hy=>by rw [(h2.row y hy).2.1,(h2.row _ hm).2.1]]
  simp only [Option.bind_some]
  rw [if_neg (by simp)]
  exact QG j Gs (i + 1) fun g' h'=>h g' (List.mem_cons_of_mem _ h')
theorem QH (g : List Dj) (hr : YF g) (hl : g.length ≤ 5) (j : Option Int) : ∀ (ys dn : List Dj),g = dn ++ ys → Lu g j ys dn.length = j
 | [],_,_=>rfl
 | y :: ys,dn,h=>by
  have hdl : dn.length ≤ 5:=by rw [h] at hl; simp at hl; omega
  have ih:=QH g hr hl j ys (dn ++ [y]) (by rw [h]; simp)
  rw [List.length_append,List.length_singleton] at ih
  rw [Lu]
  simp only [Jl]
  rw [Oj (by omega) (by omega)]
  by_cases hc : ((decide (0 < y.Rank)) && (!decide (y.Rank = ((dn.length : Int) + 1)))) = true
  ·rw [if_pos hc]
   simp only [Bool.and_eq_true,decide_eq_true_eq,Bool.not_eq_true',decide_eq_false_iff_not] at hc
   rcases hr dn y ys h hc.1 with h1 | ⟨d,p,e,h1⟩
   ·exact (hc.2 h1).elim
   ·subst e
    have hlen : ((d ++ [p]).length : Int) = (d.length : Int) + 1:=by simp
    have hn : nth g (d.length : Int) = p:=by
     have : g = d ++ p :: (y :: ys):=by rw [h]; simp
     rw [this]; exact Ye d p (y :: ys) rfl
    have hin : inB (d.length : Int) g.length = true:=Jz.2 (by rw [h]; simp; omega)
    have hz : decide (((d ++ [p]).length : Int) = 0) = false:=decide_eq_false (by omega)
    rw [hz,if_neg (by simp),hlen,show (d.length : Int) + 1 - 1 = (d.length : Int) by omega,Oj (by omega) (by omega),Gb hin,hn,h1]
    simp only [decide_true,Bool.not_true,Bool.or_self,Bool.and_false,Bool.false_eq_true,if_false]
    exact ih
  ·rw [if_neg hc]
   simp only [Bool.not_eq_true] at hc
   rw [if_neg (by rw [hc]; simp)]
   exact ih
theorem QI (j : Option Int) : ∀ (Gs : List (List Dj)) (i : Nat),(∀ g ∈ Gs,g ≠ [] ∧ ∃ race rel,race ∈ KP ∧ GGd race rel g) → Ki j Gs i = j
 | [],_,_=>rfl
 | g :: Gs,i,h=>by
  obtain ⟨h1,race,rel,_,h2⟩:=h g List.mem_cons_self
  rw [Ki]
  simp only [Jl]
  have:=QH g h2.rank h2.len (Ki j Gs (i + 1)) g [] rfl
  rw [List.length_nil] at this
  rw [this]
  exact QI j Gs (i + 1) fun g' h'=>h g' (List.mem_cons_of_mem _ h')
theorem QJ (j : Option Int) : ∀ (Gs : List (List Dj)) (i : Nat),(∀ g ∈ Gs,g.length ≤ 5) → Kz j Gs i = j
 | [],_,_=>rfl
 | g :: Gs,i,h=>by
  have hl:=h g List.mem_cons_self
  rw [Kz]
  simp only [Jl]
  rw [Mr,if_neg (by simp; omega)]
  exact QJ j Gs (i + 1) fun g' h'=>h g' (List.mem_cons_of_mem _ h')
theorem QK {Gs : List (List Dj)} (h : LGd Gs) : Sb Gs.flatten = some 0:=by
 unfold Sb
 simp only [Jl]
 have hlen:=h.len
 obtain ⟨m',e⟩:=UK (fun _=>Option.bind (Tq Gs.flatten) (fun r1=>Ky (Ki (Kz (some 0) r1 0) r1 0) r1 0)) Gs.flatten h.who Gs.flatten [] [] rfl (fun e he=>by simp [Ec,Qm,Nh] at he)
 rw [List.length_nil] at e
 rw [e,GU Gs (fun g hg=>(h.one g hg).1) h.ne (by omega),Option.bind_some,QG _ Gs 0 h.grp,QI _ Gs 0 h.grp,QJ _ Gs 0 fun g hg=>(h.one g hg).2]
theorem IH (l : List Dj) (hl : l.length ≤ 15) (hr : ∀ x ∈ l,x.Race ∈ KP ∧ x.Who ∈ GV ∧ x.Club ∈ EX ∧ 0 ≤ x.Rank ∧ x.Rank ≤ 6) (ha : l.Pairwise fun x y=>EO x y = true) (j : Option Int) : ∀ (ys dn : List Dj),l = dn ++ ys → Kg l j ys dn.length = j
 | [],_,_=>rfl
 | y :: ys,dn,h=>by
  have ih:=IH l hl hr ha j ys (dn ++ [y]) (by rw [h]; simp)
  rw [List.length_append,List.length_singleton] at ih
  obtain ⟨r1,r2,r3,r4⟩:=hr y (by rw [h]; simp)
  have hdl : dn.length ≤ 15:=by rw [h] at hl; simp at hl; omega
  have k1:=keyP (.inl r1)
  have k2:=keyP (.inr (.inl r2))
  have hw : Dt y.Rank 0 300 = true:=by unfold Dt; simp; omega
  rw [Kg,k1]
  simp only [Jl,Option.bind_some,Bool.not_true,Bool.false_eq_true,if_false,k2,Bool.or_self,hw,Bool.false_or]
  have hclub : ∀ Z : Option Int,(if (!decide (y.Club = An)) = true then Option.bind (Hk y.Club) (fun r3=>if ((!decide (y.Club = An)) && (!r3)) = true then some 5 else Z) else if ((!decide (y.Club = An)) && true) = true then some 5 else Z) = Z:=by
   intro Z
   by_cases hc : y.Club = An
   ·simp [hc]
   ·rw [if_pos (by simp [hc]),keyP (.inr (.inr ⟨r3,hc⟩)),Option.bind_some,if_neg (by simp)]
  refine (hclub _).trans ?_
  rcases List.eq_nil_or_concat dn with rfl | ⟨d,x,rfl⟩
  ·rw [if_neg (by simp)]; simpa using ih
  ·simp only [List.concat_eq_append] at *
   have hlen : ((d ++ [x]).length : Int) = (d.length : Int) + 1:=by simp
   have hn : nth l (d.length : Int) = x:=by
    have : l = d ++ x :: (y :: ys):=by rw [h]; simp
    rw [this]; exact Ye d x (y :: ys) rfl
   have hin : inB (d.length : Int) l.length = true:=Jz.2 (by rw [h]; simp; omega)
   have hlt : EO x y = true:=by
    rw [h,List.pairwise_append] at ha
    exact ha.2.2 x (by simp) y (by simp)
   have hneg:=QF (hr x (by rw [h]; simp)).2.2.2 r4 hlt
   rw [if_pos (decide_eq_true (by omega)),hlen,show (d.length : Int) + 1 - 1 = (d.length : Int) by omega,Oj (by omega) (by omega),Gb hin,hn,if_neg (by simp; omega)]
   exact ih
theorem WB {Gs : List (List Dj)} (h : LGd Gs) : Ru Gs.flatten = some 0:=by
 have hl:=h.len
 unfold Ru
 rw [if_neg (by simp only [decide_eq_true_eq]; omega)]
 simp only [Jl]
 have:=IH Gs.flatten hl h.row h.asc (Option.bind (Sb Gs.flatten) (fun r4=>some r4)) Gs.flatten [] rfl
 rw [List.length_nil] at this
 rw [this,QK h]; rfl
theorem UM {t : Jx} {Gs : List (List Dj)} (ht : KN t) (h : LGd Gs) : Rh t Gs.flatten = some 0:=by
 unfold Rh
 rw [QB ht,WB h]; rfl
end Go.Proofs.YtfdmkmnjfhbliaaGreatDoor
/- Results of a race: who has Sp,the ranks,the points. Conditions: a right plan,right deeds with few names. No program stands here but its twins. -/
namespace Go.Proofs.YtfdmkmnjfhbliaaGreatDoor
open Go
theorem OF : ∀ (l : List Ds) (i : Nat) (pt pr : Int) (z : Ds),z ∈ rkF i pt pr l → ∃ x ∈ l,z.Who = x.Who ∧ z.Time = x.Time ∧ z.Fault = x.Fault
 | [],_,_,_,_,h=>by cases h
 | x :: xs,i,pt,pr,z,h=>by
  rw [rkF] at h
  rcases List.mem_cons.1 h with rfl | h
  ·exact ⟨x,List.mem_cons_self,rfl,rfl,rfl⟩
  ·obtain ⟨y,hy,e⟩:=OF xs _ _ _ z h
   exact ⟨y,List.mem_cons_of_mem _ hy,e⟩
theorem UN : ∀ (l : List Ds) (i : Nat) (pt pr : Int),(rkF i pt pr l).map (·.Who) = l.map (·.Who)
 | [],_,_,_=>rfl
 | x :: xs,i,pt,pr=>by simp only [rkF,List.map_cons,UN xs]
def Rk2 (a b : Ds) : Prop:=a.Time ≤ b.Time ∧ a.Rank ≤ b.Rank ∧ (a.Rank = b.Rank ↔ a.Time = b.Time) ∧ (a.Time = b.Time → cB a.Who b.Who < 0)
theorem SC : ∀ (l : List Ds) (i : Nat) (pt pr : Int),l.Pairwise (fun a b=>FN a b = true) → (i = 0 ∨ (1 ≤ pr ∧ pr ≤ (i : Int) ∧ ∀ x ∈ l,pt ≤ x.Time)) →
  (∀ z ∈ rkF i pt pr l,1 ≤ z.Rank ∧ z.Rank ≤ (i : Int) + l.length ∧ (i = 0 ∨ (pt ≤ z.Time ∧ pr ≤ z.Rank ∧ (z.Rank = pr ↔ z.Time = pt)))) ∧ (rkF i pt pr l).Pairwise Rk2
 | [],_,_,_,_,_=>⟨fun z h=>absurd h (by simp [rkF]),by simp [rkF]⟩
 | x :: xs,i,pt,pr,hp,hi=>by
  rw [List.pairwise_cons] at hp
  have hle : ∀ y ∈ xs,x.Time ≤ y.Time ∧ (x.Time = y.Time → cB x.Who y.Who < 0):=fun y hy=>by
   have:=GQ.1 (hp.1 y hy)
   omega
  have hx : i = 0 ∨ pt ≤ x.Time:=hi.imp id fun h=>h.2.2 x List.mem_cons_self
  generalize hr : (if decide (0 < (i : Int)) && decide (x.Time = pt) then pr else (i : Int) + 1) = r
  have hr' : rkF i pt pr (x :: xs) = Ds.mk x.Who r x.Time x.Fault :: rkF (i + 1) x.Time r xs:=by rw [rkF]; simp only [hr]
  have hrr : (0 < i ∧ x.Time = pt ∧ r = pr) ∨ (r = (i : Int) + 1 ∧ (i = 0 ∨ x.Time ≠ pt)):=by
   rw [← hr]
   by_cases h : 0 < i
   ·by_cases h2 : x.Time = pt
    ·left
     rw [if_pos (by simp [h,h2])]
     exact ⟨h,h2,rfl⟩
    ·right
     rw [if_neg (by simp [h2])]
     exact ⟨rfl,.inr h2⟩
   ·right
    rw [if_neg (by simp; omega)]
    exact ⟨rfl,.inl (by omega)⟩
  have hr1 : 1 ≤ r ∧ r ≤ (i : Int) + 1:=by
   rcases hrr with ⟨h1,_,h3⟩ | ⟨h1,_⟩
   ·rcases hi with h | ⟨h4,h5,_⟩ <;> omega
   ·omega
  obtain ⟨A,B⟩:=SC xs (i + 1) x.Time r hp.2 (.inr ⟨hr1.1,by push_cast; omega,fun y hy=>(hle y hy).1⟩)
  rw [hr']
  refine ⟨fun z hz=>?_,List.pairwise_cons.2 ⟨fun z hz=>?_,B⟩⟩
  ·rcases List.mem_cons.1 hz with rfl | hz
   ·refine ⟨hr1.1,by simp only [List.length_cons]; push_cast; omega,?_⟩
    rcases hi with h | ⟨h4,h5,h6⟩
    ·exact .inl h
    ·right
     have:=h6 x List.mem_cons_self
     simp only
     rcases hrr with ⟨h1,h2,h3⟩ | ⟨h1,h2⟩ <;> omega
   ·obtain ⟨a1,a2,a3⟩:=A z hz
    refine ⟨a1,by simp only [List.length_cons]; push_cast at a2 ⊢; omega,?_⟩
    rcases hi with h | ⟨h4,h5,h6⟩
    ·exact .inl h
    ·right
     have:=h6 x List.mem_cons_self
     rcases a3 with a3 | ⟨a3,a4,a5⟩
     ·omega
     ·rcases hrr with ⟨h1,h2,h3⟩ | ⟨h1,h2⟩ <;> omega
  ·obtain ⟨a1,a2,a3⟩:=A z hz
   obtain ⟨y,hy,y1,y2,_⟩:=OF xs _ _ _ z hz
   obtain ⟨l1,l2⟩:=hle y hy
   rcases a3 with a3 | ⟨a3,a4,a5⟩
   ·omega
   ·refine ⟨by simp only; omega,by simp only; omega,by simp only; omega,?_⟩
    simp only
    rw [y1]
    intro e
    exact l2 (by omega)
theorem UO : ∀ (l : List Ds) (i : Nat) (pt pr : Int) (a : List Ds) (x : Ds) (b : List Ds),rkF i pt pr l = a ++ x :: b → x.Rank = (i : Int) + a.length + 1 ∨ (a = [] ∧ x.Rank = pr ∧ 0 < i) ∨ ∃ d y,a = d ++ [y] ∧ y.Rank = x.Rank
 | [],i,pt,pr,a,x,b,h=>by simp [rkF] at h
 | z :: zs,i,pt,pr,a,x,b,h=>by
  rw [rkF] at h
  cases a with
  | nil =>
   simp only [List.nil_append,List.cons.injEq] at h
   rw [← h.1]
   show (if (decide (0 < (i : Int)) && decide (z.Time = pt)) = true then pr else (i : Int) + 1) = _ ∨ (_ ∧ (if (decide (0 < (i : Int)) && decide (z.Time = pt)) = true then pr else (i : Int) + 1) = pr ∧ _) ∨ ∃ d y,_ ∧ Ds.Rank y = (if (decide (0 < (i : Int)) && decide (z.Time = pt)) = true then pr else (i : Int) + 1)
   by_cases hc : (decide (0 < (i : Int)) && decide (z.Time = pt)) = true
   ·rw [if_pos hc]
    refine .inr (.inl ⟨rfl,rfl,?_⟩)
    simp at hc
    omega
   ·rw [if_neg hc]
    exact .inl (by simp)
  | cons a0 a =>
   simp only [List.cons_append,List.cons.injEq] at h
   rcases UO zs (i + 1) _ _ a x b h.2 with e | ⟨e1,e2,_⟩ | ⟨d,y,e1,e2⟩
   ·refine .inl ?_
    simp only [List.length_cons]
    push_cast at e ⊢
    omega
   ·refine .inr (.inr ⟨[],a0,by rw [e1]; rfl,?_⟩)
    rw [← h.1,e2]
   ·exact .inr (.inr ⟨a0 :: d,y,by rw [e1]; rfl,e2⟩)
def swS (race : ByteArray) (m : List (ByteArray × Di)) (y : Di) : List (ByteArray × Di):=if decide (y.Race = race) && decide (y.Kind = 3) then Gk m y.Who y else m
def swM (race : ByteArray) (l : List Di) : List (ByteArray × Di):=l.foldl (swS race) []
theorem SD (race : ByteArray) : ∀ (ys : List Di) (i : Nat) (m : List (ByteArray × Di)),Pd race (fun x=>x) ys i m = ys.foldl (swS race) m
 | [],_,m=>rfl
 | y :: ys,i,m=>by
  rw [Pd]
  simp only [Oi,List.foldl_cons]
  unfold swS
  cases hc : (decide (y.Race = race) && decide (y.Kind = 3)) with
  | true=>rw [if_pos rfl,if_pos rfl]; exact SD race ys (i + 1) _
  | false=>rw [if_neg (by simp),if_neg (by simp)]; exact SD race ys (i + 1) _
theorem swum_is (p : Jr) (l : List Di) (race : ByteArray) : Ic p l race = swM race l:=by
 unfold Ic
 rw [Oi]
 exact SD race l 0 []
theorem swM_get {race : ByteArray} {l : List Di} {w : ByteArray} {y : Di} (h : Qm (swM race l) w = some y) : y ∈ l ∧ y.Kind = 3 ∧ y.Race = race ∧ y.Who = w:=by
 have key : ∀ (ys : List Di) (m : List (ByteArray × Di)),(∀ z ∈ ys,z ∈ l) → (∀ w y,Qm m w = some y → y ∈ l ∧ y.Kind = 3 ∧ y.Race = race ∧ y.Who = w) → ∀ w y,Qm (ys.foldl (swS race) m) w = some y → y ∈ l ∧ y.Kind = 3 ∧ y.Race = race ∧ y.Who = w:=by
  intro ys
  induction ys with
  | nil=>intro m _ h; exact h
  | cons z ys ih =>
   intro m hz hm
   rw [List.foldl_cons]
   refine ih _ (fun u hu=>hz u (List.mem_cons_of_mem _ hu)) fun w y hy=>?_
   unfold swS at hy
   split at hy
   ·rename_i hc
    simp only [Bool.and_eq_true,decide_eq_true_eq] at hc
    have e : Qm (Gk m z.Who z) w = if w = z.Who then some z else Qm m w:=BA z.Who w z m 0
    rw [e] at hy
    split at hy
    ·rename_i hw
     obtain rfl:=Option.some.inj hy
     exact ⟨hz z List.mem_cons_self,hc.2,hc.1,hw.symm⟩
    ·exact hm w y hy
   ·exact hm w y hy
 exact key l [] (fun _ h=>h) (fun w y h=>by simp [Qm,Nh] at h) w y h
structure FG (F : List Di) : Prop where
 ok : ∀ d ∈ F,DG d ∧ d.Who ∈ GW ∧ d.Club ∈ Zn
 len : F.length ≤ 40
theorem DT {α : Type} [DecidableEq α] : ∀ (l l' : List α),l.Nodup → (∀ x ∈ l,x ∈ l') → l.length ≤ l'.length
 | [],_,_,_=>Nat.zero_le _
 | x :: l,l',h,hm=>by
  rw [List.nodup_cons] at h
  have hx:=hm x List.mem_cons_self
  have:=DT l (l'.erase x) h.2 fun y hy=>(List.mem_erase_of_ne (fun e=>h.1 (by rw [← e]; exact hy))).2 (hm y (List.mem_cons_of_mem _ hy))
  rw [List.length_erase_of_mem hx] at this
  have:=List.length_pos_of_mem hx
  simp only [List.length_cons]
  omega
theorem KR {F : List Di} (h : FG F) {d : Di} (hd : d ∈ F) (hk : d.Kind ≠ 4) : d.Who ∈ [Yh,CV,CW,CX] ∧ Hk d.Who = some true ∧ Hk d.Race = some true:=by
 obtain ⟨g,n,_⟩:=h.ok d hd
 obtain ⟨h1,h2⟩:=g.who hk
 have e0 : Hk An = some false:=by decide +kernel
 refine ⟨?_,h1,h2⟩
 unfold GW at n
 simp only [List.mem_cons,List.not_mem_nil,or_false] at n ⊢
 rcases n with n | n | n | n | n
 ·exact .inl n
 ·exact .inr (.inl n)
 ·exact .inr (.inr (.inl n))
 ·exact .inr (.inr (.inr n))
 ·rw [n,e0] at h1; cases h1
theorem UP {F : List Di} (h : FG F) {d : Di} (hd : d ∈ F) (hk : d.Kind = 1) : d.Club ∈ [Uv,ES,An]:=by
 obtain ⟨g,_,n⟩:=h.ok d hd
 have eA : Hk k_A = some false:=by decide +kernel
 have hAe : k_A ≠ An:=by decide +kernel
 unfold Zn at n
 simp only [List.mem_cons,List.not_mem_nil,or_false] at n ⊢
 rcases n with h1 | h1 | h1 | h1
 ·exact .inl h1
 ·exact .inr (.inl h1)
 ·exact .inr (.inr h1)
 ·rcases g.club hk with h2 | h2
  ·exact absurd (h1.symm.trans h2) hAe
  ·rw [h1,eA] at h2; cases h2
theorem JI {F : List Di} (h : FG F) (race : ByteArray) : (LO race F).length ≤ 4:=by
 have ho:=TZ race F
 have:=DT ((LO race F).map (·.1)) [Yh,CV,CW,CX] ho.nd fun x hx=>by
  obtain ⟨p,hp,rfl⟩:=List.mem_map.1 hx
  obtain ⟨e1,_,e3,e4⟩:=ho.is p hp
  rw [e1]
  exact (KR h e4 (by omega)).1
 rw [List.length_map] at this
 exact this
theorem SE {F : List Di} (h : FG F) (p : Jr) (race : ByteArray) : Rc p F race = some (CL race F):=SA p F race (by have:=JI h race; omega)
def D0 : Di:=Di.mk An 0 0 0 An An An 0 0 An 0
def SF (race : ByteArray) (F : List Di) (d : Di) : Bool:=(Qm (swM race F) d.Who).isSome
def svS (race : ByteArray) (F : List Di) (d : Di) : Di:=Ec (swM race F) d.Who D0
def Sp (race : ByteArray) (F : List Di) : List Di:=(CL race F).filter (SF race F)
def Pv (race : ByteArray) (F : List Di) (H : List Di) : List Kj:=H.map fun d=>Kj.mk d.Who (svS race F d).Time
def BF (race : ByteArray) (F : List Di) (H : List Di) : List Iz:=(H.filter fun d=>decide (0 < (svS race F d).Fault)).map fun d=>Iz.mk d.Who (svS race F d).Fault []
def Wo (H : List Di) (m : List (ByteArray × ByteArray)) : List (ByteArray × ByteArray):=H.foldl (fun m d=>Gk m d.Who d.Club) m
theorem ED (p : Jr) (F : List Di) (race : ByteArray) (j : List Iz → List Kj → List (ByteArray × ByteArray) → Option (List Ds × List (ByteArray × ByteArray) × Int)) : ∀ (ys : List Di) (i : Nat) (v : List Iz) (q : List Kj) (c : List (ByteArray × ByteArray)),v.length + ys.length ≤ 1000 → q.length + ys.length ≤ 1000 →
  Mt p F race j ys i v q c = j (v ++ BF race F (ys.filter (SF race F))) (q ++ Pv race F (ys.filter (SF race F))) (Wo (ys.filter (SF race F)) c)
 | [],i,v,q,c,_,_=>by simp [Mt,BF,Pv,Wo]
 | y :: ys,i,v,q,c,h1,h2=>by
  simp only [List.length_cons] at h1 h2
  rw [Mt]
  simp only [Oi,swum_is]
  have hh : SF race F y = (Qm (swM race F) y.Who).isSome:=rfl
  have hs : Ec (swM race F) y.Who (Di.mk An 0 0 0 An An An 0 0 An 0) = svS race F y:=rfl
  rw [hs]
  cases hc : (Qm (swM race F) y.Who).isSome with
  | false =>
   rw [if_pos (by simp),List.filter_cons_of_neg (by rw [hh,hc]; simp)]
   exact ED p F race j ys (i + 1) v q c (by omega) (by omega)
  | true =>
   rw [if_neg (by simp),Gb (by unfold St; exact decide_eq_true (by omega)),List.filter_cons_of_pos (by rw [hh,hc])]
   by_cases hf : 0 < (svS race F y).Fault
   ·rw [if_pos (decide_eq_true hf),Gb (by unfold St; exact decide_eq_true (by omega)),ED p F race j ys (i + 1) _ _ _ (by simp; omega) (by simp; omega)]
    unfold BF Pv Wo
    rw [List.filter_cons_of_pos (by simpa using hf)]
    simp
   ·rw [if_neg (by simpa using hf),ED p F race j ys (i + 1) v _ _ (by omega) (by simp; omega)]
    unfold BF Pv Wo
    rw [List.filter_cons_of_neg (by simpa using hf)]
    simp
theorem BZ {F : List Di} (h : FG F) {race : ByteArray} {d : Di} (hd : d ∈ Sp race F) : d ∈ CL race F ∧ (svS race F d ∈ F ∧ (svS race F d).Kind = 3 ∧ (svS race F d).Race = race ∧ (svS race F d).Who = d.Who) ∧ (0 ≤ (svS race F d).Time ∧ (svS race F d).Time ≤ 360000) ∧ (0 ≤ (svS race F d).Fault ∧ (svS race F d).Fault ≤ 8):=by
 obtain ⟨h1,h2⟩:=List.mem_filter.1 hd
 unfold SF at h2
 obtain ⟨y,hy⟩:=Option.isSome_iff_exists.1 h2
 have e : svS race F d = y:=by unfold svS Ec; rw [hy]; rfl
 have g:=swM_get hy
 rw [e]
 have gd:=(h.ok y g.1).1
 exact ⟨h1,g,gd.time (.inr g.2.1),gd.fault g.2.1⟩
theorem EE (race : ByteArray) (F : List Di) : (Sp race F).Pairwise fun a b=>cB a.Who b.Who < 0:=((entL_up race F).sublist List.filter_sublist).imp fun {a b} h=>by
 rw [KI,decide_eq_true_eq] at h
 exact h
theorem KS {F : List Di} (h : FG F) (race : ByteArray) : (Sp race F).length ≤ 4:=by
 have h1:=List.length_filter_le (SF race F) (CL race F)
 have h2:=JI h race
 rw [KL] at h1
 unfold Sp
 omega
def BG (race : ByteArray) (F : List Di) (w : ByteArray) : Int:=Ec (Zs (BF race F (Sp race F)) []) w 0
theorem MR (V : List Iz) (m : List (ByteArray × Int)) (w : ByteArray) (h : ∀ v ∈ V,v.Who ≠ w) : Ec (Zs V m) w 0 = Ec m w 0:=by
 unfold Zs
 induction V generalizing m with
 | nil=>rfl
 | cons v V ih =>
  rw [List.foldl_cons,ih _ fun u hu=>h u (List.mem_cons_of_mem _ hu),Yd,if_neg fun e=>h v List.mem_cons_self e.symm]
theorem WC (V : List Iz) (m : List (ByteArray × Int)) (v : Iz) (hv : v ∈ V) (hp : (V.map (·.Who)).Nodup) : Ec (Zs V m) v.Who 0 = v.Fault:=by
 induction V generalizing m with
 | nil=>cases hv
 | cons u V ih =>
  simp only [List.map_cons,List.nodup_cons] at hp
  have e : Zs (u :: V) m = Zs V (Gk m u.Who u.Fault):=rfl
  rw [e]
  rcases List.mem_cons.1 hv with rfl | hv
  ·rw [MR V _ v.Who fun z hz e=>hp.1 (by rw [← e]; exact List.mem_map_of_mem hz),Yd,if_pos rfl]
  ·exact ih _ hv hp.2
theorem fltS_is {F : List Di} (h : FG F) {race : ByteArray} {d : Di} (hd : d ∈ Sp race F) : BG race F d.Who = (svS race F d).Fault:=by
 obtain ⟨_,_,_,f0,_⟩:=BZ h hd
 have hup:=EE race F
 have hnd : ((BF race F (Sp race F)).map (·.Who)).Nodup:=by
  unfold BF
  rw [List.map_map]
  exact List.pairwise_map.2 ((hup.sublist List.filter_sublist).imp fun {a b} hab e=>by
   have e' : a.Who = b.Who:=e
   rw [e',Tv] at hab; omega)
 unfold BG
 by_cases hf : 0 < (svS race F d).Fault
 ·exact WC _ [] (Iz.mk d.Who (svS race F d).Fault []) (List.mem_map.2 ⟨d,List.mem_filter.2 ⟨hd,decide_eq_true hf⟩,rfl⟩) hnd
 ·rw [MR _ _ _ fun v hv e=>?_]
  ·have : (svS race F d).Fault = 0:=by omega
   rw [this]; rfl
  ·obtain ⟨u,hu,rfl⟩:=List.mem_map.1 hv
   obtain ⟨hu1,hu2⟩:=List.mem_filter.1 hu
   have hu2:=of_decide_eq_true hu2
   simp only at e
   have : svS race F u = svS race F d:=by unfold svS; rw [e]
   rw [this] at hu2
   exact hf hu2
def Yl (race : ByteArray) (F : List Di) : List Ds:=BD (BG race F) (Pv race F (Sp race F))
theorem WD {F : List Di} (h : FG F) (p : Jr) (race : ByteArray) : Xa p F race = some (Yl race F,Wo (Sp race F) [],0):=by
 have hlen:=KS h race
 have hel:=KL race F
 have hef:=JI h race
 unfold Xa
 rw [SE h p race]
 simp only [Option.bind_some,Oi]
 rw [ED p F race _ (CL race F) 0 [] [] [] (by simp; omega) (by simp; omega),List.nil_append,List.nil_append]
 have hQ : (Pv race F (Sp race F)).length ≤ 4:=by unfold Pv; rw [List.length_map]; exact hlen
 have hV : (BF race F (Sp race F)).length ≤ 4:=by
  unfold BF
  rw [List.length_map]
  exact Nat.le_trans (List.length_filter_le _ _) hlen
 have hr:=rank_is (Q:=Pv race F (Sp race F)) (V:=BF race F (Sp race F)) (by omega) (fun s hs=>by
   unfold Pv at hs
   obtain ⟨d,hd,rfl⟩:=List.mem_map.1 hs
   obtain ⟨d1,_,d3,_⟩:=BZ h hd
   obtain ⟨_,k2,k3⟩:=GS d1
   exact ⟨(KR h k3 (by omega)).2.1,d3⟩)
  (by unfold Pv; rw [List.pairwise_map]; exact EE race F) (by omega) (fun s hs=>by
   unfold BF at hs
   obtain ⟨d,hd,rfl⟩:=List.mem_map.1 hs
   obtain ⟨d1,_,_,d4⟩:=BZ h (List.mem_filter.1 hd).1
   obtain ⟨_,k2,k3⟩:=GS d1
   exact ⟨(KR h k3 (by omega)).2.1,d4⟩)
  (by unfold BF; rw [List.pairwise_map]; exact (EE race F).sublist List.filter_sublist)
 show Option.bind (Xr (Pv race F (Sp race F)) (BF race F (Sp race F))) _ = _
 rw [hr]
 rfl
end Go.Proofs.YtfdmkmnjfhbliaaGreatDoor
/- Results of a race,with their points. Conditions: a right plan,right deeds with few names. No program stands here but its twins. -/
namespace Go.Proofs.YtfdmkmnjfhbliaaGreatDoor
open Go
theorem DU {race : ByteArray} {F : List Di} (h : FG F) {y : Ds} (hy : y ∈ Yl race F) : ∃ d ∈ Sp race F,y.Who = d.Who ∧ y.Time = (svS race F d).Time ∧ y.Fault = (svS race F d).Fault ∧ ((0 < y.Rank ∧ y.Rank ≤ 4 ∧ 0 < y.Time ∧ y.Fault = 0) ∨ (y.Rank = 0 ∧ ¬ (0 < y.Time ∧ y.Fault = 0))):=by
 have hlen:=KS h race
 have hmk : ∀ s ∈ Pv race F (Sp race F),∃ d ∈ Sp race F,s.Who = d.Who ∧ s.Time = (svS race F d).Time ∧ BG race F s.Who = (svS race F d).Fault:=fun s hs=>by
  unfold Pv at hs
  obtain ⟨d,hd,rfl⟩:=List.mem_map.1 hs
  exact ⟨d,hd,rfl,rfl,fltS_is h hd⟩
 have hG : ((Pv race F (Sp race F)).filter (isG (BG race F))).length ≤ 4:=by
  refine Nat.le_trans (List.length_filter_le _ _) ?_
  unfold Pv
  rw [List.length_map]; exact hlen
 unfold Yl BD at hy
 rcases List.mem_append.1 hy with hy | hy
 ·obtain ⟨x,hx,e1,e2,e3⟩:=OF _ _ _ _ _ hy
  rw [Qo] at hx
  obtain ⟨s,hs,rfl⟩:=List.mem_map.1 hx
  obtain ⟨hs1,hs2⟩:=List.mem_filter.1 hs
  obtain ⟨d,hd,d1,d2,d3⟩:=hmk s hs1
  unfold isG at hs2
  simp only [Bool.and_eq_true,decide_eq_true_eq] at hs2
  have hup : (((Pv race F (Sp race F)).filter (isG (BG race F))).map (mkR (BG race F))).Pairwise fun a b=>cB a.Who b.Who < 0:=by
   rw [List.pairwise_map]
   refine List.Pairwise.sublist List.filter_sublist ?_
   unfold Pv
   rw [List.pairwise_map]
   exact EE race F
  obtain ⟨r1,r2,_⟩:=(SC _ 0 0 0 (PT hup) (.inl rfl)).1 y hy
  rw [Xx,List.length_map] at r2
  refine ⟨d,hd,e1.trans d1,e2.trans d2,e3.trans d3,.inl ⟨by omega,by omega,?_,?_⟩⟩
  ·rw [e2]; exact hs2.2
  ·rw [e3]; exact hs2.1
 ·obtain ⟨s,hs,rfl⟩:=List.mem_map.1 hy
  obtain ⟨hs1,hs2⟩:=List.mem_filter.1 hs
  obtain ⟨d,hd,d1,d2,d3⟩:=hmk s hs1
  refine ⟨d,hd,d1,d2,d3,.inr ⟨rfl,fun hh=>?_⟩⟩
  unfold isG at hs2
  have h1 : BG race F s.Who = 0:=hh.2
  have h2 : 0 < s.Time:=hh.1
  rw [decide_eq_true h1,decide_eq_true h2] at hs2
  cases hs2
def Rk3 (a b : Ds) : Prop:=(0 < a.Rank ∧ 0 < b.Rank ∧ Rk2 a b) ∨ (0 < a.Rank ∧ b.Rank = 0) ∨ (a.Rank = 0 ∧ b.Rank = 0 ∧ cB a.Who b.Who < 0)
theorem QL (race : ByteArray) (F : List Di) : (Pv race F (Sp race F)).Pairwise fun a b=>cB a.Who b.Who < 0:=by
 unfold Pv
 rw [List.pairwise_map]
 exact EE race F
theorem good_up (race : ByteArray) (F : List Di) : (((Pv race F (Sp race F)).filter (isG (BG race F))).map (mkR (BG race F))).Pairwise fun a b=>cB a.Who b.Who < 0:=by
 rw [List.pairwise_map]
 exact (QL race F).sublist List.filter_sublist
theorem rank_up (race : ByteArray) (F : List Di) : (Yl race F).Pairwise Rk3:=by
 obtain ⟨A,B⟩:=SC _ 0 0 0 (PT (good_up race F)) (.inl rfl)
 unfold Yl BD
 rw [List.pairwise_append]
 refine ⟨?_,?_,fun a ha b hb=>?_⟩
 ·refine List.Pairwise.imp_of_mem (fun {a b} ha hb hab=>.inl ⟨?_,?_,hab⟩) B
  ·have:=(A a ha).1; omega
  ·have:=(A b hb).1; omega
 ·rw [List.pairwise_map]
  exact ((QL race F).sublist List.filter_sublist).imp fun {a b} hab=>.inr (.inr ⟨rfl,rfl,hab⟩)
 ·obtain ⟨s,_,rfl⟩:=List.mem_map.1 hb
  exact .inr (.inl ⟨by have:=(A a ha).1; omega,rfl⟩)
theorem MS (race : ByteArray) (F : List Di) : ((Yl race F).map (·.Who)).Perm ((Sp race F).map (·.Who)):=by
 have e1 : (Pv race F (Sp race F)).map (·.Who) = (Sp race F).map (·.Who):=by unfold Pv; rw [List.map_map]; rfl
 unfold Yl BD
 rw [List.map_append,UN,← e1]
 have e2 : ∀ l : List Kj,(l.map (mkR (BG race F))).map (·.Who) = l.map (·.Who):=fun l=>by rw [List.map_map]; rfl
 have p1 : ((Mm FN (((Pv race F (Sp race F)).filter (isG (BG race F))).map (mkR (BG race F)))).map (·.Who)).Perm (((Pv race F (Sp race F)).filter (isG (BG race F))).map (·.Who)):=by
  rw [← e2]
  exact (KE _ _).map _
 rw [e2]
 refine (p1.append_right _).trans ?_
 rw [← List.map_append]
 exact (List.filter_append_perm _ _).map _
theorem OG (race : ByteArray) (F : List Di) : ((Sp race F).map (·.Who)).Nodup:=List.pairwise_map.2 ((EE race F).imp fun {a b} h e=>by rw [e,Tv] at h; omega)
theorem rank_nd (race : ByteArray) (F : List Di) : ((Yl race F).map (·.Who)).Nodup:=(MS race F).nodup_iff.2 (OG race F)
theorem GX {F : List Di} (h : FG F) (race : ByteArray) : (Yl race F).length ≤ 4:=by
 have:=(MS race F).length_eq
 rw [List.length_map,List.length_map] at this
 have:=KS h race
 omega
theorem SG (H : List Di) (m : List (ByteArray × ByteArray)) (w : ByteArray) (h : ∀ d ∈ H,d.Who ≠ w) : Ec (Wo H m) w An = Ec m w An:=by
 unfold Wo
 induction H generalizing m with
 | nil=>rfl
 | cons v H ih =>
  rw [List.foldl_cons,ih _ fun u hu=>h u (List.mem_cons_of_mem _ hu),Yd,if_neg fun e=>h v List.mem_cons_self e.symm]
theorem KT (H : List Di) (m : List (ByteArray × ByteArray)) (d : Di) (hd : d ∈ H) (hp : (H.map (·.Who)).Nodup) : Ec (Wo H m) d.Who An = d.Club:=by
 induction H generalizing m with
 | nil=>cases hd
 | cons u H ih =>
  simp only [List.map_cons,List.nodup_cons] at hp
  have e : Wo (u :: H) m = Wo H (Gk m u.Who u.Club):=rfl
  rw [e]
  rcases List.mem_cons.1 hd with rfl | hd
  ·rw [SG H _ d.Who fun z hz e=>hp.1 (by rw [← e]; exact List.mem_map_of_mem hz),Yd,if_pos rfl]
  ·exact ih _ hd hp.2
def scS (C : List (ByteArray × ByteArray)) (r : Du) (y : Ds) : Dj:=Dj.mk r.Key y.Who (Ec C y.Who An) y.Rank (decide (1 < r.Legs))
theorem KU (r : Du) (r1 : List Ds × List (ByteArray × ByteArray) × Int) (j : List Dj → Option (List Je × Int)) : ∀ (ys : List Ds) (i : Nat) (x : List Dj),x.length + ys.length ≤ 1000 → Md r r1 j ys i x = j (x ++ ys.map (scS r1.2.1 r))
 | [],i,x,_=>by simp [Md]
 | y :: ys,i,x,h=>by
  simp only [List.length_cons] at h
  rw [Md,Gb (by unfold St; exact decide_eq_true (by omega)),KU r r1 j ys (i + 1) _ (by simp; omega)]
  unfold scS
  simp
def Ql (r : Du) (F : List Di) : List Dj:=(Yl r.Key F).map (scS (Wo (Sp r.Key F) []) r)
theorem AG {F : List Di} (h : FG F) (r : Du) : GGd r.Key (decide (1 < r.Legs)) (Ql r F):=by
 have hnd:=rank_nd r.Key F
 have hup:=rank_up r.Key F
 refine ⟨by unfold Ql; rw [List.length_map]; have:=GX h r.Key; omega,fun x hx=>?_,?_,?_,?_⟩
 ·obtain ⟨y,hy,rfl⟩:=List.mem_map.1 hx
  obtain ⟨d,hd,e1,_,_,e4⟩:=DU h hy
  obtain ⟨d1,_⟩:=BZ h hd
  obtain ⟨_,k2,k3⟩:=GS d1
  have hw:=(KR h k3 (by omega)).1
  have hc:=UP h k3 k2
  refine ⟨rfl,rfl,?_,?_,?_,?_⟩
  ·show y.Who ∈ GV
   rw [e1]
   unfold GV
   simp only [List.mem_cons,List.not_mem_nil,or_false] at hw ⊢
   rcases hw with hw | hw | hw | hw <;> simp [hw]
  ·show Ec _ y.Who An ∈ EX
   rw [e1,KT _ [] d hd (OG r.Key F)]
   unfold EX
   simp only [List.mem_cons,List.not_mem_nil,or_false] at hc ⊢
   rcases hc with hc | hc | hc <;> simp [hc]
  ·show 0 ≤ y.Rank
   omega
  ·show y.Rank ≤ 6
   omega
 ·unfold Ql
  rw [List.pairwise_map]
  refine List.Pairwise.imp_of_mem (fun {a b} ha hb hab=>?_) hup
  rw [DR]
  refine .inr ⟨rfl,?_⟩
  obtain ⟨_,_,_,_,_,ea⟩:=DU h ha
  obtain ⟨_,_,_,_,_,eb⟩:=DU h hb
  show (if a.Rank = 0 then (301 : Int) else a.Rank) < (if b.Rank = 0 then (301 : Int) else b.Rank) ∨ ((if a.Rank = 0 then (301 : Int) else a.Rank) = (if b.Rank = 0 then (301 : Int) else b.Rank) ∧ cB a.Who b.Who < 0)
  rcases hab with ⟨h1,h2,h3,h4,h5,h6⟩ | ⟨h1,h2⟩ | ⟨h1,h2,h3⟩
  ·rw [if_neg (by omega),if_neg (by omega)]
   by_cases e : a.Rank = b.Rank
   ·exact .inr ⟨e,h6 (h5.1 e)⟩
   ·exact .inl (by omega)
  ·rw [if_neg (by omega),if_pos h2]
   exact .inl (by omega)
  ·rw [if_pos h1,if_pos h2]
   exact .inr ⟨rfl,h3⟩
 ·unfold Ql
  rw [List.pairwise_map]
  exact List.pairwise_map.1 hnd
 ·intro a x b e hx
  unfold Ql Yl BD at e
  obtain ⟨l1,l2,he,ha,hxb⟩:=List.map_eq_append_iff.1 e
  obtain ⟨z,l3,hl2,hz,hb⟩:=List.map_eq_cons_iff.1 hxb
  subst hl2
  have hzr : 0 < z.Rank:=by rw [← hz] at hx; exact hx
  -- z stands among the good ones
  have hin : ∃ l4,rkF 0 0 0 (Mm FN (((Pv r.Key F (Sp r.Key F)).filter (isG (BG r.Key F))).map (mkR (BG r.Key F)))) = l1 ++ z :: l4:=by
   rcases List.append_eq_append_iff.1 he with ⟨c,h1,h2⟩ | ⟨c,h1,h2⟩
   ·exfalso
    have : z ∈ ((Pv r.Key F (Sp r.Key F)).filter fun s=>!isG (BG r.Key F) s).map (mkR (BG r.Key F)):=by rw [h2]; simp
    obtain ⟨s,_,rfl⟩:=List.mem_map.1 this
    simp [mkR] at hzr
   ·cases c with
    | nil =>
     exfalso
     rw [List.nil_append] at h2
     have : z ∈ ((Pv r.Key F (Sp r.Key F)).filter fun s=>!isG (BG r.Key F) s).map (mkR (BG r.Key F)):=by rw [← h2]; simp
     obtain ⟨s,_,rfl⟩:=List.mem_map.1 this
     simp [mkR] at hzr
    | cons c0 c =>
     simp only [List.cons_append,List.cons.injEq] at h2
     exact ⟨c,by rw [h1,h2.1]⟩
  obtain ⟨l4,hl4⟩:=hin
  have hal : a.length = l1.length:=by rw [← ha,List.length_map]
  have hzx : x.Rank = z.Rank:=by rw [← hz]; rfl
  rcases UO _ 0 0 0 l1 z l4 hl4 with h1 | ⟨_,_,h3⟩ | ⟨d,y,h1,h2⟩
  ·left; rw [hzx,h1,hal]; simp
  ·omega
  ·right
   refine ⟨d.map (scS (Wo (Sp r.Key F) []) r),scS (Wo (Sp r.Key F) []) r y,?_,?_⟩
   ·rw [← ha,h1,List.map_append]; rfl
   ·rw [hzx,← h2]; rfl
def OH (x y : Dj) : Bool:=decide (Nx x y < 0)
theorem WE (l : List Dj) (hl : l.length ≤ 19) : Hh l = some (Mm OH l):=by
 have hs : Hj l 0 (l.length : Int) = some (Mm OH l):=by
  unfold Hj
  simp only [Oi]
  have hins : ∀ (k : List Dj → Option (List Dj)) (rp : List Dj) (x : Dj) (post : List Dj),((rp ++ x :: post).length : Int) = (l.length : Int) → (∀ y,y ∈ rp ∨ y = x ∨ y ∈ post → y ∈ (rp ++ x :: post)) →
    El 0 k (((rp.length : Int) - 0).toNat + 2) (rp.reverse ++ x :: post) (rp.length : Int) = k ((Um OH x rp).reverse ++ post):=by
   intro k rp x post h1 _
   exact ID (fun x y k=>k (OH x y)) OH k (El 0 k) (fun _ _ _=>rfl) rp x post _ (by omega) (by simp at h1; omega) fun y _ k'=>rfl
  cases l with
  | nil=>rfl
  | cons x l =>
   have hw : W (0 + 1) = (([x] : List Dj).length : Int):=rfl
   rw [hw]
   exact AF OH (fun x=>some x) (fun k x i=>El 0 k ((i - 0).toNat + 2) x i) (Fh ((x :: l).length : Int) 0 fun x=>some x) ((x :: l).length : Int) (fun _ _ _=>rfl)
    (fun k rp x post h1 h2=>hins k rp x post h1 h2) l [x] _ (by simp only [List.length_cons,List.length_nil]; omega) (by simp only [List.length_cons,List.length_nil]; omega) (by simp only [List.length_cons,List.length_nil] at hl ⊢; omega)
 unfold Hh Ke
 simp only [Oi]
 rw [Fz,if_neg (by simp; omega),hs]
 simp only [Option.bind_some]
 rw [Ga,if_neg (by simp; omega)]
 rfl
theorem ltRs_is (x y : Dj) (hr : x.Race = y.Race) (hx : 0 ≤ x.Rank ∧ x.Rank ≤ 6) (hy : 0 ≤ y.Rank ∧ y.Rank ≤ 6) : OH x y = EO x y:=by
 unfold OH EO Nx
 apply decide_eq_decide.2
 have hk : ∀ z : Dj,kR z = if z.Rank = 0 then 301 else z.Rank:=fun _=>rfl
 rw [hk,hk]
 simp only [hr,Tv,Int.lt_irrefl,true_and,false_or]
 by_cases h1 : x.Rank = 0 <;> by_cases h2 : y.Rank = 0
 ·rw [if_neg (by simp [h1,h2]),if_neg (by simp [h1,h2]),if_pos h1,if_pos h2]
  show cB x.Who y.Who < 0 ↔ _
  omega
 ·rw [if_pos (by simp [h1,h2]),Oj (by omega) (by omega),if_pos h1,if_neg h2]
  omega
 ·rw [if_pos (by simp [h1,h2]),Oj (by omega) (by omega),if_neg h1,if_pos h2]
  omega
 ·rw [if_neg (by simp [h1,h2]),if_neg h1,if_neg h2]
  by_cases h3 : x.Rank = y.Rank
  ·rw [if_neg (by simp [h3])]
   show cB x.Who y.Who < 0 ↔ _
   omega
  ·rw [if_pos (by simpa using h3),Oj (by omega) (by omega)]
   omega
theorem YG (x : Dj) : EO x x = false:=by
 rw [← Bool.not_eq_true,DR,Tv,Tv]
 omega
theorem WG {race : ByteArray} {rel : Bool} {g : List Dj} (h : GGd race rel g) : Hh g = some g:=by
 rw [WE g (by have:=h.len; omega),IF (lt:=OH) (lt':=EO) g fun x hx y hy=>ltRs_is x y ((h.row x hx).1.trans (h.row y hy).1.symm) (h.row x hx).2.2.2.2 (h.row y hy).2.2.2.2]
 congr 1
 exact GO YG SB g g (List.Pairwise.imp (fun {a b} (hab : EO a b = true) (_ : EO b a = false)=>hab) h.asc) h.asc fun _=>Iff.rfl
def OI (g : List Dj) : List (List Dj):=if g = [] then [] else [g]
theorem EF (g : List Dj) : (OI g).flatten = g:=by
 unfold OI
 split
 ·rename_i h; rw [h]; rfl
 ·simp
theorem KV {race : ByteArray} {rel : Bool} {g : List Dj} (hr : race ∈ [Rq,Uu,Xl]) (h : GGd race rel g) : LGd (OI g):=by
 refine ⟨fun g' hg'=>?_,?_,by rw [EF]; have:=h.len; omega⟩
 ·unfold OI at hg'
  split at hg'
  ·cases hg'
  ·rename_i hne
   rw [List.mem_singleton] at hg'
   subst hg'
   exact ⟨hne,race,rel,hr,h⟩
 ·unfold OI
  split <;> simp
def gvS (r : Dp) : Dm:=Dm.mk ((r.x_.Race ++ On) ++ r.x_.Who) r.points_
theorem YH {t : Jx} (ht : KN t) {race : ByteArray} {rel : Bool} {g : List Dj} (hr : race ∈ [Rq,Uu,Xl]) (h : GGd race rel g) : ∃ R,Nn t g = some R ∧ R.length ≤ 15 ∧ (∀ r ∈ R,Xn g r) ∧ Vo t g = some (R.map gvS,0):=by
 have hG:=KV hr h
 have hb:=UM ht hG
 obtain ⟨R,h1,h2,h3⟩:=UG t ht.toTOk (OI g) hG.one hG.ne hG.len
 rw [EF] at hb h1 h3
 refine ⟨R,h1,h2,h3,?_⟩
 have hsz : ∀ x ∈ g,x.Race.size ≤ 40 ∧ x.Who.size ≤ 40:=fun x hx=>by
  obtain ⟨e1,_,e3,_⟩:=h.row x hx
  have k1 : ∀ s ∈ [Rq,Uu,Xl],s.size ≤ 40:=by decide +kernel
  have k2 : ∀ s ∈ GV,s.size ≤ 40:=by decide +kernel
  exact ⟨by rw [e1]; exact k1 _ hr,k2 _ e3⟩
 have h20 : On.size = 1:=by decide +kernel
 unfold Vo
 rw [hb,Option.bind_some,if_neg (by simp),h1,Option.bind_some]
 simp only [Jl]
 have loop : ∀ (R : List Dp) (i : Nat) (x : List Dm),(∀ r ∈ R,r.x_ ∈ g) → x.length + R.length ≤ 1000 → Mu (fun (x1 : List Dm)=>some (x1,0)) R i x = some (x ++ R.map gvS,0):=by
  intro R
  induction R with
  | nil=>intro i x _ _; simp [Mu]
  | cons r R ih =>
   intro i x h1 h2
   simp only [List.length_cons] at h2
   obtain ⟨c1,c2⟩:=hsz r.x_ (h1 r List.mem_cons_self)
   rw [Mu,Gb (decide_eq_true (by omega)),Gb (decide_eq_true (by rw [ByteArray.size_append]; omega)),Gb (by unfold St; exact decide_eq_true (by omega)),ih _ _ (fun z hz=>h1 z (List.mem_cons_of_mem _ hz)) (by simp; omega)]
   simp [gvS]
 rw [loop R 0 [] (fun r hr=>(h3 r hr).1) (by simp; omega),List.nil_append]
def ofS (G : List Dm) (m : List (ByteArray × Dk)) : List (ByteArray × Dk):=G.foldl (fun m y=>Gk m y.Key y.Points) m
theorem KW (j : List (ByteArray × Dk) → Option (List Je × Int)) : ∀ (G : List Dm) (i : Nat) (m : List (ByteArray × Dk)),Nb j G i m = j (ofS G m)
 | [],_,_=>rfl
 | y :: G,i,m=>by rw [Nb,KW j G (i + 1) _]; rfl
def ptS (m : List (ByteArray × Dk)) (k : ByteArray) : Dk:=if (Qm m k).isSome then Ec m k (Dk.mk 0 0) else Dk.mk 0 1
def Wp (C : List (ByteArray × ByteArray)) (m : List (ByteArray × Dk)) (r : Du) (y : Ds) : Je:=Je.mk y.Rank y.Who (Ec C y.Who An) y.Time y.Fault (ptS m ((r.Key ++ On) ++ y.Who))
theorem KX (r : Du) (r1 : List Ds × List (ByteArray × ByteArray) × Int) (m : List (ByteArray × Dk)) (j : List Je → Option (List Je × Int)) (hk : r.Key.size ≤ 40) : ∀ (ys : List Ds) (i : Nat) (x : List Je),(∀ y ∈ ys,y.Who.size ≤ 40) → x.length + ys.length ≤ 1000 → Me r r1 m j ys i x = j (x ++ ys.map (Wp r1.2.1 m r))
 | [],i,x,_,_=>by simp [Me]
 | y :: ys,i,x,hw,h=>by
  simp only [List.length_cons] at h
  have h20 : On.size = 1:=by decide +kernel
  have hy:=hw y List.mem_cons_self
  rw [Me,Gb (decide_eq_true (by omega)),Gb (decide_eq_true (by rw [ByteArray.size_append]; omega))]
  simp only [Oi]
  have hroom : St x.length = true:=by unfold St; exact decide_eq_true (by omega)
  have hfin:=KX r r1 m j hk ys (i + 1) (x ++ [Wp r1.2.1 m r y]) (fun z hz=>hw z (List.mem_cons_of_mem _ hz)) (by simp; omega)
  have hl : Wp r1.2.1 m r y = Je.mk y.Rank y.Who (Ec r1.2.1 y.Who An) y.Time y.Fault (ptS m ((r.Key ++ On) ++ y.Who)):=rfl
  have hp : ptS m ((r.Key ++ On) ++ y.Who) = if (Qm m ((r.Key ++ On) ++ y.Who)).isSome then Ec m ((r.Key ++ On) ++ y.Who) (Dk.mk 0 0) else Dk.mk 0 1:=rfl
  cases hc : (Qm m ((r.Key ++ On) ++ y.Who)).isSome with
  | true =>
   rw [hc,if_pos rfl] at hp
   rw [if_neg (by simp),Gb hroom]
   rw [hl,hp] at hfin
   rw [hfin,List.map_cons,hl,hp]
   simp
  | false =>
   rw [hc,if_neg (by simp)] at hp
   rw [if_pos (by simp),Gb hroom]
   rw [hl,hp] at hfin
   rw [hfin,List.map_cons,hl,hp]
   simp
theorem SH {p : Jr} (hp : Vd p) {F : List Di} (h : FG F) {r : Du} (hr : r ∈ p.Races) : ∃ R,Nn p.Table (Ql r F) = some R ∧ R.length ≤ 15 ∧ (∀ x ∈ R,Xn (Ql r F) x) ∧ Vo p.Table (Ql r F) = some (R.map gvS,0) ∧
  Pf p F r = some ((Yl r.Key F).map (Wp (Wo (Sp r.Key F) []) (ofS (R.map gvS) []) r),0):=by
 have hkey:=(hp.races r hr).2
 have hg:=AG h r
 obtain ⟨R,h1,h2,h3,h4⟩:=YH hp.table hkey hg
 refine ⟨R,h1,h2,h3,h4,?_⟩
 have hlen:=GX h r.Key
 have k1 : ∀ s ∈ [Rq,Uu,Xl],s.size ≤ 40:=by decide +kernel
 have k2 : ∀ s ∈ [Yh,CV,CW,CX],s.size ≤ 40:=by decide +kernel
 have hw : ∀ y ∈ Yl r.Key F,y.Who.size ≤ 40:=fun y hy=>by
  obtain ⟨d,hd,e1,_⟩:=DU h hy
  obtain ⟨_,k3,k4⟩:=GS (BZ h hd).1
  rw [e1]
  exact k2 _ (KR h k4 (by omega)).1
 unfold Pf
 rw [WD h p r.Key]
 simp only [Option.bind_some,decide_true,Bool.not_true,Bool.false_eq_true,if_false,Oi]
 rw [KU r _ _ (Yl r.Key F) 0 [] (by simp; omega),List.nil_append]
 have hs:=WG hg
 show Option.bind (Hh (Ql r F)) _ = _
 rw [hs]
 simp only [Option.bind_some]
 rw [h4]
 simp only [Option.bind_some,decide_true,Bool.not_true,Bool.false_eq_true,if_false]
 rw [KW,KX r _ _ _ (k1 _ hkey) (Yl r.Key F) 0 [] hw (by simp; omega),List.nil_append]
end Go.Proofs.YtfdmkmnjfhbliaaGreatDoor
/- A right meet that is asked. Conditions: a right plan,right deeds with few names. No program stands here but its twins. -/
namespace Go.Proofs.YtfdmkmnjfhbliaaGreatDoor
open Go
structure LG (l : List Di) : Prop where
 ok : DsG l
 names : ∀ d ∈ l,d.Who ∈ GW ∧ d.Club ∈ Zn
 len : l.length ≤ 40
theorem LG.facts {l : List Di} (h : LG l) (at_ : Int) : FG (Qk l at_) :=
 ⟨fun d hd=>⟨h.ok.each d ((FO l at_).subset hd),h.names d ((FO l at_).subset hd)⟩,Nat.le_trans (FO l at_).length_le h.len⟩
theorem YI (j : Option (Option Lc × Int)) : ∀ (ats : List Int) (i : Nat),(∀ a ∈ ats,Jb a = true) → Py j ats i = j
 | [],_,_=>rfl
 | a :: ats,i,h=>by
  rw [Py,h a List.mem_cons_self,if_neg (by simp)]
  exact YI j ats (i + 1) fun b hb=>h b (List.mem_cons_of_mem _ hb)
theorem UQ {p : Jr} (hp : Vd p) {l : List Di} (h : LG l) (ats : List Int) (a : Int) (hm : ∀ b ∈ ats ++ [a],Jb b = true) (hl : ats.length ≤ 1000) : Za p l (ats ++ [a]) = some (some (Lc.mk p (Qk l a)),0):=by
 have hlen:=h.len
 have hn : nth (ats ++ [a]) (W ((((ats ++ [a]).length : Nat) : Int) - 1)) = a:=by
  rw [List.length_append,List.length_singleton,Oj (by omega) (by omega)]
  exact Ye ats a [] (by omega)
 have hi : inB (W ((((ats ++ [a]).length : Nat) : Int) - 1)) (ats ++ [a]).length = true:=by
  rw [List.length_append,List.length_singleton,Oj (by omega) (by omega)]
  exact Jz.2 (by omega)
 unfold Za
 rw [OE hp]
 simp only [Option.bind_some,decide_true,Bool.not_true,Bool.false_eq_true,if_false]
 rw [h.ok.chk]
 simp only [Option.bind_some,decide_true,Bool.not_true,Bool.false_eq_true,if_false,Oi]
 rw [YI _ _ 0 hm,Gb hi,hn,RZ p l a (by omega)]
 rfl
theorem YJ (key : ByteArray) : ∀ (l : List Du) (i : Nat),(l.map (·.Key)).Nodup → ∀ r ∈ l,r.Key = key → ∃ k : Nat,Gu key (-1) l i = ((i + k : Nat) : Int) ∧ l[k]? = some r
 | [],_,_,r,h,_=>by cases h
 | x :: l,i,hn,r,h,hk=>by
  rw [Gu]
  unfold Ya
  simp only [List.map_cons,List.nodup_cons] at hn
  by_cases hx : x.Key = key
  ·rw [if_pos (decide_eq_true hx)]
   rcases List.mem_cons.1 h with rfl | h
   ·exact ⟨0,by simp,rfl⟩
   ·exact absurd (List.mem_map_of_mem (f:=(·.Key)) h) (by rw [hk,← hx]; exact hn.1)
  ·rw [if_neg (by simpa using hx)]
   rcases List.mem_cons.1 h with rfl | h
   ·exact absurd hk hx
   ·obtain ⟨k,e1,e2⟩:=YJ key l (i + 1) hn.2 r h hk
    exact ⟨k + 1,by rw [e1]; congr 1; omega,by simpa using e2⟩
theorem KY {p : Jr} (hp : Vd p) {F : List Di} (h : FG F) {r : Du} (hr : r ∈ p.Races) : Xq p F r.Key = some (r,0):=by
 obtain ⟨k,e1,e2⟩:=YJ r.Key p.Races 0 hp.keys r hr rfl
 have hidx : Gv p.Races r.Key = (k : Int):=by
  unfold Gv
  rw [Oi,e1]
  simp
 have hk : k < p.Races.length:=by
  rcases Nat.lt_or_ge k p.Races.length with h | h
  ·exact h
  ·rw [List.getElem?_eq_none h] at e2; cases e2
 have hf:=JI h r.Key
 have hnth : nth p.Races (k : Int) = r:=by unfold nth; simp [List.getD,e2]
 unfold Xq
 rw [hidx,if_neg (by simp),SE h]
 simp only [Option.bind_some]
 rw [if_neg (by rw [KL]; simp; omega),Gb (Jz.2 (by omega)),hnth]
theorem all_l {p : Jr} (hp : Vd p) {F : List Di} (h : FG F) (j : Option Int) : ∀ (ys : List Du) (i : Nat),(∀ r ∈ ys,r ∈ p.Races) → Pz p F j ys i = j
 | [],_,_=>rfl
 | r :: ys,i,hy=>by
  rw [Pz,KY hp h (hy r List.mem_cons_self)]
  simp only [Option.bind_some,decide_true,Bool.not_true,Bool.false_eq_true,if_false]
  exact all_l hp h j ys (i + 1) fun z hz=>hy z (List.mem_cons_of_mem _ hz)
theorem all_ok {p : Jr} (hp : Vd p) {F : List Di} (h : FG F) : AP p F = some 0:=by
 unfold AP
 rw [Oi]
 exact all_l hp h _ p.Races 0 fun _ hr=>hr
theorem ask_is {p : Jr} (hp : Vd p) {l : List Di} (h : LG l) {r : Du} (hr : r ∈ p.Races) (a : Int) (hm : Jb a = true) : CY p l r.Key a = some (some (Lc.mk p (Qk l a)),r,0):=by
 have ho:=UQ hp h [] a (by simpa using hm) (by simp)
 rw [List.nil_append] at ho
 unfold CY
 rw [ho]
 simp only [Option.bind_some,decide_true,Bool.not_true,Bool.false_eq_true,if_false]
 rw [KY hp (h.facts a) hr]
 rfl
theorem SI {p : Jr} (hp : Vd p) {l : List Di} (h : LG l) {r : Du} (hr : r ∈ p.Races) (a : Int) (hm : Jb a = true) : Xb p l r.Key a = Pf p (Qk l a) r:=by
 unfold Xb
 rw [ask_is hp h hr a hm]
 simp only [Option.bind_some,decide_true,Bool.not_true,Bool.false_eq_true,if_false]
 cases Pf p (Qk l a) r <;> rfl
theorem LG.of {x : List Di} (h : DsG x) (hn : ∀ d ∈ x,MP d) (hl : x.length ≤ 40) : LG x:=⟨h,fun d hd=>⟨(hn d hd).who,(hn d hd).club⟩,hl⟩
end Go.Proofs.YtfdmkmnjfhbliaaGreatDoor
/- The points of the clubs of a meet. Conditions: a right plan,right deeds with few names. No program stands here but its twins. -/
namespace Go.Proofs.YtfdmkmnjfhbliaaGreatDoor
open Go
def QM (f : Dk) : Nat:=(f.Num * 60 / f.Den).toNat
theorem JJ (v : Nat) : QM (fr v) = v:=by
 obtain ⟨n,d,e,h1,h2,h3,h4⟩:=KM v
 unfold QM
 rw [e]
 simp only
 rw [show (n : Int) * 60 = ((v * d : Nat) : Int) by rw [← h4]; push_cast; rfl,← Int.natCast_ediv,Int.toNat_natCast,Nat.mul_div_cancel _ h1]
theorem UR {u v : Nat} (hu : u ≤ 1000000000) (hv : v ≤ 1000000000) : AQ (fr u) (fr v) = some (fr (u + v)):=by
 obtain ⟨n,d,e1,d1,d2,n1,p1⟩:=KM u
 obtain ⟨m,e,e2,d3,d4,m1,p2⟩:=KM v
 unfold AQ
 rw [e1,e2]
 simp only
 have b1:=GT (a:=n) (b:=e) (by omega) d4
 have b2:=GT (a:=m) (b:=d) (by omega) d2
 have b3:=GT (a:=d) (b:=e) (by omega) d4
 rw [XY (by omega) d4,XY (by omega) d2,XY (by omega) d4,← Int.natCast_add,Oj (by omega) (by omega),UA (Nat.mul_pos d1 d3) (VX p1 p2) (by omega) (by omega)]
 rfl
def FQ (x y : Dm) : Bool:=decide (Qf x y < 0)
theorem SJ (l : List Dm) (hl : l.length ≤ 12) : Ir l 0 (l.length : Int) = some (Mm FQ l):=by
 unfold Ir
 simp only [Oi]
 have hins : ∀ (k : List Dm → Option (List Dm)) (rp : List Dm) (x : Dm) (post : List Dm),((rp ++ x :: post).length : Int) = (l.length : Int) → (∀ y,y ∈ rp ∨ y = x ∨ y ∈ post → y ∈ (rp ++ x :: post)) →
   Er 0 k (((rp.length : Int) - 0).toNat + 2) (rp.reverse ++ x :: post) (rp.length : Int) = k ((Um FQ x rp).reverse ++ post):=by
  intro k rp x post h1 _
  exact ID (fun x y k=>k (FQ x y)) FQ k (Er 0 k) (fun _ _ _=>rfl) rp x post _ (by omega) (by simp at h1; omega) fun y _ k'=>rfl
 cases l with
 | nil=>rfl
 | cons x l =>
  have hw : W (0 + 1) = (([x] : List Dm).length : Int):=rfl
  rw [hw]
  exact AF FQ (fun x=>some x) (fun k x i=>Er 0 k ((i - 0).toNat + 2) x i) (Ft ((x :: l).length : Int) 0 fun x=>some x) ((x :: l).length : Int) (fun _ _ _=>rfl)
   (fun k rp x post h1 h2=>hins k rp x post h1 h2) l [x] _ (by simp only [List.length_cons,List.length_nil]; omega) (by simp only [List.length_cons,List.length_nil]; omega) (by simp only [List.length_cons,List.length_nil] at hl ⊢; omega)
theorem WH (l : List Dm) (hl : l.length ≤ 12) : Jj l = some (Mm FQ l):=by
 unfold Jj
 obtain ⟨r,hr⟩:=Option.isSome_iff_exists.1 (TR ⟨l.length,by omega⟩)
 simp only at hr
 rw [hr]
 simp only [Option.bind_some]
 unfold Ks
 rw [show (4611686018427387904 : Nat) = 4611686018427387903 + 1 from rfl,Gz,Oj (by omega) (by omega),if_pos (decide_eq_true (by omega)),SJ l hl]
 rfl
theorem JK (x y : Dm) : FQ x y = decide (cB x.Key y.Key < 0):=rfl
theorem QO (x : Dm) : FQ x x = false:=by rw [JK,Tv]; rfl
theorem CA (x y z : Dm) (h1 : FQ x y = true) (h2 : FQ y z = true) : FQ x z = true:=by
 rw [JK,decide_eq_true_eq] at *; exact Zl h1 h2
theorem GY {l : List Dm} (h : (l.map (·.Key)).Nodup) : l.Pairwise fun a b=>FQ b a = false → FQ a b = true:=by
 refine (List.pairwise_map.1 h).imp fun {a b} hne hb=>?_
 rw [JK,decide_eq_false_iff_not] at hb
 rw [JK,decide_eq_true_eq]
 have h0 : cB a.Key b.Key ≠ 0:=fun e=>hne (GL e)
 have:=GM a.Key b.Key
 omega
def Qz (p : Jr) (F : List Di) (r : Du) : List Dp:=(Nn p.Table (Ql r F)).getD []
def Wa (p : Jr) (F : List Di) (r : Du) : List Je:=(Yl r.Key F).map (Wp (Wo (Sp r.Key F) []) (ofS ((Qz p F r).map gvS) []) r)
theorem Zp {p : Jr} (hp : Vd p) {F : List Di} (h : FG F) {r : Du} (hr : r ∈ p.Races) : Pf p F r = some (Wa p F r,0) ∧ Nn p.Table (Ql r F) = some (Qz p F r) ∧ ∀ x ∈ Qz p F r,Xn (Ql r F) x:=by
 obtain ⟨R,h1,_,h3,_,h5⟩:=SH hp h hr
 have e : Qz p F r = R:=by unfold Qz; rw [h1]; rfl
 unfold Wa
 rw [e]
 exact ⟨h5,h1,h3⟩
theorem ofS_get (G : List Dm) (k : ByteArray) : ∀ (m : List (ByteArray × Dk)) (f : Dk),Qm (ofS G m) k = some f → Qm m k = some f ∨ ∃ y ∈ G,y.Key = k ∧ y.Points = f:=by
 unfold ofS
 induction G with
 | nil=>intro m f h; exact .inl h
 | cons g G ih =>
  intro m f h
  rw [List.foldl_cons] at h
  rcases ih _ f h with h | ⟨y,hy,e⟩
  ·have e : Qm (Gk m g.Key g.Points) k = if k = g.Key then some g.Points else Qm m k:=BA g.Key k g.Points m 0
   rw [e] at h
   split at h
   ·rename_i hk
    exact .inr ⟨g,List.mem_cons_self,hk.symm,Option.some.inj h⟩
   ·exact .inl h
  ·exact .inr ⟨y,List.mem_cons_of_mem _ hy,e⟩
theorem OJ : Dk.mk 0 1 = fr 0:=by decide +kernel
theorem ptS_fr {L : List Dj} {R : List Dp} (hR : ∀ x ∈ R,Xn L x) (k : ByteArray) : ∃ v,v ≤ 6000 ∧ ptS (ofS (R.map gvS) []) k = fr v:=by
 unfold ptS
 cases hc : Qm (ofS (R.map gvS) []) k with
 | none=>exact ⟨0,by omega,by rw [if_neg (by simp),OJ]⟩
 | some f =>
  rw [if_pos (by rfl)]
  rcases ofS_get _ _ _ _ hc with h | ⟨y,hy,_,e2⟩
  ·simp [Qm,Nh] at h
  ·obtain ⟨x,hx,rfl⟩:=List.mem_map.1 hy
   obtain ⟨_,_,v,hv,e⟩:=hR x hx
   refine ⟨v,hv,?_⟩
   unfold Ec
   rw [hc,← e2]
   exact e
theorem OK {p : Jr} (hp : Vd p) {F : List Di} (h : FG F) {r : Du} (hr : r ∈ p.Races) {y : Je} (hy : y ∈ Wa p F r) : ∃ d ∈ Sp r.Key F,y.Who = d.Who ∧ y.Club = d.Club ∧ y.Time = (svS r.Key F d).Time ∧ y.Fault = (svS r.Key F d).Fault ∧ ((0 < y.Rank ∧ y.Rank ≤ 4 ∧ 0 < y.Time ∧ y.Fault = 0) ∨ (y.Rank = 0 ∧ ¬ (0 < y.Time ∧ y.Fault = 0))) ∧ ∃ v,v ≤ 6000 ∧ y.Points = fr v:=by
 obtain ⟨z,hz,e⟩:=List.mem_map.1 hy
 obtain ⟨d,hd,e1,e2,e3,e4⟩:=DU h hz
 obtain ⟨_,_,hR⟩:=Zp hp h hr
 obtain ⟨v,hv,e5⟩:=ptS_fr hR ((r.Key ++ On) ++ z.Who)
 have hc : Ec (Wo (Sp r.Key F) []) z.Who An = d.Club:=by rw [e1,KT _ [] d hd (OG r.Key F)]
 have f0 : y.Who = z.Who:=by rw [← e,Wp]
 have f1 : y.Club = d.Club:=by rw [← e,Wp,hc]
 have f2 : y.Time = z.Time:=by rw [← e,Wp]
 have f3 : y.Fault = z.Fault:=by rw [← e,Wp]
 have f4 : y.Rank = z.Rank:=by rw [← e,Wp]
 have f5 : y.Points = fr v:=by rw [← e,Wp,e5]
 refine ⟨d,hd,f0.trans e1,f1,f2.trans e2,f3.trans e3,?_,v,hv,f5⟩
 rw [f4,f2,f3]
 exact e4
structure MF (m : List (ByteArray × Dk)) (K : ByteArray → Prop) (u : ByteArray → Nat) : Prop where
 nd : (m.map (·.1)).Nodup
 keys : ∀ k,k ∈ m.map (·.1) ↔ K k
 vals : ∀ k,K k → Ec m k (Dk.mk 0 0) = fr (u k)
theorem MF.put {m : List (ByteArray × Dk)} {K : ByteArray → Prop} {u : ByteArray → Nat} (h : MF m K u) (k : ByteArray) (v : Nat) : MF (Gk m k (fr v)) (fun z=>z = k ∨ K z) (fun z=>if z = k then v else u z):=by
 obtain ⟨a,b⟩:=OC k (fr v) m h.nd
 refine ⟨a,fun z=>by rw [b z,h.keys z],fun z hz=>?_⟩
 rw [Yd]
 by_cases e : z = k
 ·rw [if_pos e,if_pos e]
 ·rw [if_neg e,if_neg e]
  rcases hz with hz | hz
  ·exact (e hz).elim
  ·exact h.vals z hz
theorem MF.congr {m : List (ByteArray × Dk)} {K K' : ByteArray → Prop} {u u' : ByteArray → Nat} (h : MF m K u) (hk : ∀ k,K k ↔ K' k) (hu : ∀ k,K' k → u k = u' k) : MF m K' u' :=
 ⟨h.nd,fun k=>(h.keys k).trans (hk k),fun k hk'=>by rw [h.vals k ((hk k).2 hk'),hu k hk']⟩
theorem MT {ν : Type} (k : ByteArray) : ∀ (m : List (ByteArray × ν)) (i : Nat),(Nh m k i).isSome = true ↔ k ∈ m.map (·.1)
 | [],_=>by simp [Nh]
 | (q,u) :: m,i=>by
  by_cases e : k = q
  ·simp [Nh,e]
  ·simp only [Nh,e,if_false,List.map_cons,List.mem_cons,false_or]
   exact MT k m (i + 1)
theorem QP {ν : Type} (k : ByteArray) (m : List (ByteArray × ν)) : (Qm m k).isSome = true ↔ k ∈ m.map (·.1):=by
 unfold Qm
 rw [Option.isSome_map,MT k m 0]
theorem GZ (j : List (ByteArray × Dk) → Option (List Dm × Int)) : ∀ (ys : List Di) (i : Nat) (m : List (ByteArray × Dk)) (K : ByteArray → Prop) (u : ByteArray → Nat),MF m K u → (∀ k,k ≠ An → ¬ K k → u k = 0) →
  ∃ m',Og j ys i m = j m' ∧ MF m' (fun k=>K k ∨ (k ≠ An ∧ ∃ d ∈ ys,d.Club = k)) u
 | [],i,m,K,u,h,_=>⟨m,rfl,h.congr (fun k=>⟨.inl,fun h=>h.elim id fun ⟨_,d,hd,_⟩=>absurd hd (by simp)⟩) fun _ _=>rfl⟩
 | y :: ys,i,m,K,u,h,h0=>by
  rw [Og]
  simp only [Oi]
  by_cases hc : y.Club = An
  ·rw [if_neg (by simp [hc])]
   obtain ⟨m',e,g⟩:=GZ j ys (i + 1) m K u h h0
   refine ⟨m',e,g.congr (fun k=>or_congr Iff.rfl ⟨fun ⟨a,d,hd,b⟩=>⟨a,d,List.mem_cons_of_mem _ hd,b⟩,fun ⟨a,d,hd,b⟩=>?_⟩) fun _ _=>rfl⟩
   rcases List.mem_cons.1 hd with rfl | hd
   ·exact absurd (b.symm.trans hc) a
   ·exact ⟨a,d,hd,b⟩
  ·by_cases hk : (Qm m y.Club).isSome = true
   ·rw [if_neg (by simp [hk])]
    obtain ⟨m',e,g⟩:=GZ j ys (i + 1) m K u h h0
    have hK : K y.Club:=(h.keys _).1 ((QP _ _).1 hk)
    refine ⟨m',e,g.congr (fun k=>⟨fun hh=>hh.imp id fun ⟨a,d,hd,b⟩=>⟨a,d,List.mem_cons_of_mem _ hd,b⟩,fun hh=>?_⟩) fun _ _=>rfl⟩
    rcases hh with hh | ⟨a,d,hd,b⟩
    ·exact .inl hh
    ·rcases List.mem_cons.1 hd with rfl | hd
     ·exact .inl (by rw [← b]; exact hK)
     ·exact .inr ⟨a,d,hd,b⟩
   ·have hk' : (Qm m y.Club).isSome = false:=by simpa using hk
    rw [if_pos (by simp [hc,hk']),OJ]
    have hK : ¬ K y.Club:=fun hK=>hk ((QP _ _).2 ((h.keys _).2 hK))
    have h1:=(h.put y.Club 0).congr (K':=fun z=>z = y.Club ∨ K z) (u':=u) (fun _=>Iff.rfl) fun k _=>by
     split
     ·rename_i e; rw [e,h0 _ hc hK]
     ·rfl
    obtain ⟨m',e,g⟩:=GZ j ys (i + 1) _ _ u h1 fun k hk hn=>h0 k hk fun hh=>hn (.inr hh)
    refine ⟨m',e,g.congr (fun k=>⟨fun hh=>?_,fun hh=>?_⟩) fun _ _=>rfl⟩
    ·rcases hh with (hh | hh) | ⟨a,d,hd,b⟩
     ·exact .inr ⟨by rw [hh]; exact hc,y,List.mem_cons_self,hh.symm⟩
     ·exact .inl hh
     ·exact .inr ⟨a,d,List.mem_cons_of_mem _ hd,b⟩
    ·rcases hh with hh | ⟨a,d,hd,b⟩
     ·exact .inl (.inr hh)
     ·rcases List.mem_cons.1 hd with rfl | hd
      ·exact .inl (.inl b.symm)
      ·exact .inr ⟨a,d,hd,b⟩
def HW (k : ByteArray) (ls : List Je) : Nat:=((ls.filter fun y=>decide (y.Club = k)).map fun y=>QM y.Points).sum
theorem BH (k : ByteArray) (y : Je) (ls : List Je) : HW k (y :: ls) = (if y.Club = k then QM y.Points else 0) + HW k ls:=by
 unfold HW
 by_cases h : y.Club = k
 ·rw [List.filter_cons_of_pos (by simpa using h),if_pos h,List.map_cons,List.sum_cons]
 ·rw [List.filter_cons_of_neg (by simpa using h),if_neg h,Nat.zero_add]
theorem KZ (j : List (ByteArray × Dk) → Option (List Dm × Int)) (K : ByteArray → Prop) (hKe : ¬ K An) : ∀ (ys : List Je) (i : Nat) (m : List (ByteArray × Dk)) (u : ByteArray → Nat) (B : Nat),MF m K u → (∀ y ∈ ys,y.Club ≠ An → K y.Club) → (∀ y ∈ ys,∃ v,v ≤ 6000 ∧ y.Points = fr v) → (∀ k,u k ≤ B) → B + 6000 * ys.length ≤ 1000000 →
  ∃ m',Np j ys i m = j m' ∧ MF m' K (fun k=>u k + HW k ys)
 | [],i,m,u,B,h,_,_,_,_=>⟨m,rfl,h.congr (fun _=>Iff.rfl) fun _ _=>rfl⟩
 | y :: ys,i,m,u,B,h,h1,h2,h3,h4=>by
  simp only [List.length_cons] at h4
  obtain ⟨v,hv,e⟩:=h2 y List.mem_cons_self
  have hval : QM y.Points = v:=by rw [e,JJ]
  have h1' : ∀ z ∈ ys,z.Club ≠ An → K z.Club:=fun z hz=>h1 z (List.mem_cons_of_mem _ hz)
  have h2' : ∀ z ∈ ys,∃ v,v ≤ 6000 ∧ z.Points = fr v:=fun z hz=>h2 z (List.mem_cons_of_mem _ hz)
  rw [Np]
  simp only [Oi]
  by_cases hc : y.Club = An
  ·rw [if_neg (by simp [hc])]
   obtain ⟨m',e',g⟩:=KZ j K hKe ys (i + 1) m u B h h1' h2' h3 (by omega)
   refine ⟨m',e',g.congr (fun _=>Iff.rfl) fun k hk=>?_⟩
   rw [BH,if_neg (fun e=>hKe (by rw [← hc,e]; exact hk)),Nat.zero_add]
  ·have hK:=h1 y List.mem_cons_self hc
   have hu:=h3 y.Club
   rw [if_pos (by simpa using hc),h.vals _ hK,e,UR (by omega) (by omega)]
   simp only [Option.bind_some]
   have h5:=(h.put y.Club (u y.Club + v)).congr (K':=K) (u':=fun z=>if z = y.Club then u y.Club + v else u z) (fun k=>⟨fun hh=>hh.elim (fun e=>by rw [e]; exact hK) id,.inr⟩) fun _ _=>rfl
   obtain ⟨m',e',g⟩:=KZ j K hKe ys (i + 1) _ _ (B + 6000) h5 h1' h2' (fun k=>by
    have:=h3 k
    split <;> omega) (by omega)
   refine ⟨m',e',g.congr (fun _=>Iff.rfl) fun k _=>?_⟩
   rw [BH,hval]
   by_cases hk : k = y.Club
   ·rw [if_pos hk,if_pos hk.symm,hk]; omega
   ·rw [if_neg hk,if_neg (fun e=>hk e.symm)]; omega
theorem US (k : ByteArray) : ∀ (ls : List Je),(∀ y ∈ ls,∃ v,v ≤ 6000 ∧ y.Points = fr v) → HW k ls ≤ 6000 * ls.length
 | [],_=>by simp [HW]
 | y :: ls,h=>by
  have ih:=US k ls fun z hz=>h z (List.mem_cons_of_mem _ hz)
  obtain ⟨v,hv,e⟩:=h y List.mem_cons_self
  rw [BH,e,JJ]
  simp only [List.length_cons]
  split <;> omega
theorem MU (k : ByteArray) : ∀ (ls : List Je),(∀ y ∈ ls,y.Club ≠ k) → HW k ls = 0
 | [],_=>rfl
 | y :: ls,h=>by rw [BH,if_neg (h y List.mem_cons_self),MU k ls fun z hz=>h z (List.mem_cons_of_mem _ hz)]
def LA (p : Jr) (F : List Di) (k : ByteArray) (ys : List Du) : Nat:=(ys.map fun r=>HW k (Wa p F r)).sum
theorem MV (p : Jr) {F : List Di} (h : FG F) (r : Du) : (Wa p F r).length ≤ 4:=by
 unfold Wa
 rw [List.length_map]
 exact GX h r.Key
theorem QQ {p : Jr} (hp : Vd p) {F : List Di} (h : FG F) (j : List (ByteArray × Dk) → Option (List Dm × Int)) : ∀ (ys : List Du) (i : Nat) (m : List (ByteArray × Dk)) (K : ByteArray → Prop) (u : ByteArray → Nat) (B : Nat),(∀ r ∈ ys,r ∈ p.Races) → MF m K u → (∀ k,k ≠ An → ¬ K k → u k = 0) → ¬ K An → (∀ k,u k ≤ B) → B + 24000 * ys.length ≤ 900000 →
  ∃ m',Mw p F j ys i m = j m' ∧ MF m' (fun k=>K k ∨ (k ≠ An ∧ ∃ r ∈ ys,∃ d ∈ CL r.Key F,d.Club = k)) (fun k=>u k + LA p F k ys)
 | [],i,m,K,u,B,_,hm,_,_,_,_=>⟨m,rfl,hm.congr (fun k=>⟨.inl,fun h=>h.elim id fun ⟨_,r,hr,_⟩=>absurd hr (by simp)⟩) fun _ _=>rfl⟩
 | y :: ys,i,m,K,u,B,hy,hm,h0,hKe,hB,hb=>by
  simp only [List.length_cons] at hb
  have hr:=hy y List.mem_cons_self
  have hll:=MV p h y
  rw [Mw,SE h]
  simp only [Option.bind_some,Oi]
  have hline : ∀ z ∈ Wa p F y,∃ v,v ≤ 6000 ∧ z.Points = fr v:=fun z hz=>by
   obtain ⟨d,hd,_,_,_,_,_,hv⟩:=OK hp h hr hz
   exact hv
  have hclub : ∀ z ∈ Wa p F y,∃ d ∈ CL y.Key F,z.Club = d.Club:=fun z hz=>by
   obtain ⟨d,hd,_,e,_⟩:=OK hp h hr hz
   exact ⟨d,(BZ h hd).1,e⟩
  obtain ⟨m1,e1,g1⟩:=GZ (fun (x2 : List (ByteArray × Dk))=>Option.bind (Pf p F y) (fun r3=>if !decide (r3.2 = 0) then some (([] : List Dm),r3.2) else Np (fun x5=>Mw p F j ys (i + 1) x5) r3.1 0 x2)) (CL y.Key F) 0 m K u hm h0
  rw [e1,(Zp hp h hr).1]
  simp only [Option.bind_some,decide_true,Bool.not_true,Bool.false_eq_true,if_false]
  have hKe1 : ¬ (K An ∨ (An ≠ An ∧ ∃ d ∈ CL y.Key F,d.Club = An)):=fun hh=>hh.elim hKe fun ⟨a,_⟩=>a rfl
  obtain ⟨m2,e2,g2⟩:=KZ (fun x5=>Mw p F j ys (i + 1) x5) _ hKe1 (Wa p F y) 0 m1 u B g1 (fun z hz hne=>by
   obtain ⟨d,hd,e⟩:=hclub z hz
   exact .inr ⟨hne,d,hd,e.symm⟩) hline hB (by omega)
  rw [e2]
  have hle : ∀ k,HW k (Wa p F y) ≤ 24000:=fun k=>Nat.le_trans (US k _ hline) (by omega)
  obtain ⟨m3,e3,g3⟩:=QQ hp h j ys (i + 1) m2 _ _ (B + 24000) (fun z hz=>hy z (List.mem_cons_of_mem _ hz)) g2 (fun k hk hn=>by
   have a1 : ¬ K k:=fun hh=>hn (.inl hh)
   rw [h0 k hk a1,MU k _ fun z hz e=>hn (.inr ⟨hk,by obtain ⟨d,hd,e'⟩:=hclub z hz; exact ⟨d,hd,e'.symm.trans e⟩⟩)]) hKe1 (fun k=>by have:=hB k; have:=hle k; omega) (by omega)
  refine ⟨m3,e3,g3.congr (fun k=>⟨fun hh=>?_,fun hh=>?_⟩) fun k _=>?_⟩
  ·rcases hh with (hh | ⟨a,d,hd,b⟩) | ⟨a,r,hr',d,hd,b⟩
   ·exact .inl hh
   ·exact .inr ⟨a,y,List.mem_cons_self,d,hd,b⟩
   ·exact .inr ⟨a,r,List.mem_cons_of_mem _ hr',d,hd,b⟩
  ·rcases hh with hh | ⟨a,r,hr',d,hd,b⟩
   ·exact .inl (.inl hh)
   ·rcases List.mem_cons.1 hr' with rfl | hr'
    ·exact .inl (.inr ⟨a,d,hd,b⟩)
    ·exact .inr ⟨a,r,hr',d,hd,b⟩
  ·unfold LA
   rw [List.map_cons,List.sum_cons]
   omega
theorem QR (j : List Dm → Option (List Dm × Int)) : ∀ (p : List (ByteArray × Dk)) (x : List Dm),x.length + p.length ≤ 1000000 → Nq j p x = j (x ++ p.map fun e=>Dm.mk e.1 e.2)
 | [],x,_=>by simp [Nq]
 | y :: p,x,h=>by
  simp only [List.length_cons] at h
  rw [Nq,Gb (by unfold St; exact decide_eq_true (by omega))]
  simp only [Option.bind_some]
  rw [QR j p (x ++ [Dm.mk y.1 y.2]) (by simp; omega)]
  simp
theorem YK {p : Jr} (hp : Vd p) {F : List Di} (h : FG F) : ∃ m,MF m (fun k=>k ≠ An ∧ ∃ r ∈ p.Races,∃ d ∈ CL r.Key F,d.Club = k) (fun k=>LA p F k p.Races) ∧ m.length ≤ 2 ∧ Uy p F = some (Mm FQ (m.map fun e=>Dm.mk e.1 e.2),0):=by
 have hfew:=hp.few
 obtain ⟨m,e,g⟩:=QQ hp h (fun x1=>OO x1 (fun p=>Nq (fun x8=>Option.bind (Jj x8) (fun r5=>some (r5,0))) p ([] : List Dm))) p.Races 0 [] (fun _=>False) (fun _=>0) 0 (fun _ hr=>hr) ⟨by simp,fun k=>by simp,fun _ hk=>hk.elim⟩ (fun _ _ _=>rfl) (fun hh=>hh) (fun _=>by omega) (by omega)
 have g':=g.congr (K':=fun k=>k ≠ An ∧ ∃ r ∈ p.Races,∃ d ∈ CL r.Key F,d.Club = k) (u':=fun k=>LA p F k p.Races) (fun k=>by simp) fun k _=>by simp
 have hlen : m.length ≤ 2:=by
  have:=DT (m.map (·.1)) [Uv,ES] g'.nd fun k hk=>by
   obtain ⟨a,r,_,d,hd,b⟩:=(g'.keys k).1 hk
   obtain ⟨_,k2,k3⟩:=GS hd
   have hc:=UP h k3 k2
   rw [b] at hc
   simp only [List.mem_cons,List.not_mem_nil,or_false] at hc ⊢
   rcases hc with hc | hc | hc
   ·exact .inl hc
   ·exact .inr hc
   ·exact absurd hc a
  rw [List.length_map] at this
  exact this
 refine ⟨m,g',hlen,?_⟩
 unfold Uy
 rw [all_ok hp h]
 simp only [Option.bind_some,decide_true,Bool.not_true,Bool.false_eq_true,if_false,Oi]
 rw [e]
 refine MY fun q hq=>?_
 have hql : q.length = m.length:=hq.length_eq
 rw [QR _ q [] (by simp; omega),List.nil_append,WH _ (by rw [List.length_map]; omega)]
 simp only [Option.bind_some]
 have hk : ∀ l : List (ByteArray × Dk),(l.map fun e=>Dm.mk e.1 e.2).map (·.Key) = l.map (·.1):=fun l=>by rw [List.map_map]; rfl
 have hp' : (q.map fun e=>Dm.mk e.1 e.2).Perm (m.map fun e=>Dm.mk e.1 e.2):=hq.map _
 congr 2
 exact GO QO CA _ _ (GY (by rw [hk]; exact (hq.map (·.1)).nodup_iff.2 g'.nd)) (Xw CA _ (GY (by rw [hk]; exact g'.nd))) fun x=>by rw [hp'.mem_iff]; exact (Qo _ _ _).symm
theorem YL {p : Jr} (hp : Vd p) {l : List Di} (h : LG l) (a : Int) (hm : Jb a = true) : Zh p l a = Uy p (Qk l a):=by
 have ho:=UQ hp h [] a (by simpa using hm) (by simp)
 rw [List.nil_append] at ho
 unfold Zh
 rw [ho]
 simp only [Option.bind_some,decide_true,Bool.not_true,Bool.false_eq_true,if_false]
 cases Uy p (Qk l a) <;> rfl
end Go.Proofs.YtfdmkmnjfhbliaaGreatDoor
/- The rows of points: whose they are. No program stands here but its twins. -/
namespace Go.Proofs.YtfdmkmnjfhbliaaGreatDoor
open Go
theorem Xk {R : Type} {c : Bool} {k : Option R} {r : R} (h : Chk c k = some r) : c = true ∧ k = some r:=by
 unfold Chk at h
 split at h
 ·rename_i hc; exact ⟨hc,h⟩
 ·cases h
theorem OL {α R : Type} {o : Option α} {k : α → Option R} {r : R} (h : Option.bind o k = some r) : ∃ a,o = some a ∧ k a = some r:=Option.bind_eq_some_iff.1 h
def Zq (y : Dj) : Bool:=!(decide (y.Rank = 0) || decide (y.Club = An))
theorem LB (t : Jx) (j : List (ByteArray × Int) → List Int → List Dp → Option (List Dp)) (R : List Dp) : ∀ (ys : List Dj) (i : Nat) (x1 : List (ByteArray × Int)) (x2 : List Int) (x3 : List Dp),Lo t j ys i x1 x2 x3 = some R →
  ∃ mp sw out,j mp sw out = some R ∧ out.map (·.x_) = x3.map (·.x_) ++ ys.filter Zq
 | [],i,x1,x2,x3,h=>⟨x1,x2,x3,h,by simp⟩
 | y :: ys,i,x1,x2,x3,h=>by
  rw [Lo] at h
  simp only [Jl] at h
  by_cases hc : (decide (y.Rank = 0) || decide (y.Club = An)) = true
  ·rw [if_pos hc] at h
   obtain ⟨mp,sw,out,e,g⟩:=LB t j R ys (i + 1) x1 x2 x3 h
   exact ⟨mp,sw,out,e,by rw [g,List.filter_cons_of_neg (by unfold Zq; rw [hc]; simp)]⟩
  ·rw [if_neg hc] at h
   have hg : Zq y = true:=by unfold Zq; rw [Bool.not_eq_true] at hc; rw [hc]; rfl
   have go : ∀ x7,Lo t j ys (i + 1) (Gk x1 y.Club (W ((Ec x1 y.Club 0) + 1))) x7 (x3 ++ [(Dp.mk y Jm)]) = some R → ∃ mp sw out,j mp sw out = some R ∧ out.map (·.x_) = x3.map (·.x_) ++ (y :: ys).filter Zq:=fun x7 h=>by
    obtain ⟨mp,sw,out,e,g⟩:=LB t j R ys (i + 1) _ x7 _ h
    exact ⟨mp,sw,out,e,by rw [g,List.filter_cons_of_pos hg]; simp⟩
   split at h
   ·exact go _ (Xk (Xk h).2).2
   ·exact go _ (Xk h).2
theorem LC (t : Jx) (x2 : List Int) (x8 : List Dp) (x9 : Int) (j : Int → Int → Option (List Dp)) (R : List Dp) : ∀ (m : Nat) (a b : Int),Km t x2 x8 x9 j m a b = some R → ∃ c d,j c d = some R
 | 0,_,_,h=>by rw [Km] at h; cases h
 | m + 1,a,b,h=>by
  rw [Km] at h
  simp only [Jl] at h
  have fin : ∀ c : Bool,(if c = true then (if decide (a < (t.Points.length : Int)) = true then Chk (inB a t.Points.length) (Km t x2 x8 x9 j m (W (a + 1)) (W (b + nth t.Points a))) else Km t x2 x8 x9 j m (W (a + 1)) b) else j a b) = some R → ∃ c d,j c d = some R:=fun c h=>by
   split at h
   ·split at h
    ·exact LC t x2 x8 x9 j R m _ _ (Xk h).2
    ·exact LC t x2 x8 x9 j R m _ _ h
   ·exact ⟨a,b,h⟩
  split at h
  ·exact fin _ (Xk (Xk (Xk (Xk h).2).2).2).2
  ·exact fin _ h
theorem setX (l : List Dp) (z : Int) (f : Dk) (h : inB z l.length = true) : (l.set z.toNat (Dp.mk ((nth l z).x_) f)).map (·.x_) = l.map (·.x_):=by
 rw [List.map_set]
 obtain ⟨h1,h2⟩:=Jz.1 h
 have hz : z.toNat < l.length:=by omega
 have e : (nth l z).x_ = (l.map (·.x_))[z.toNat]'(by rw [List.length_map]; exact hz):=by
  unfold nth
  rw [List.getElem_map,List.getD,List.getElem?_eq_getElem hz]
  rfl
 show (l.map (·.x_)).set z.toNat ((nth l z).x_) = _
 rw [e,List.set_getElem_self]
theorem QS (a b c : Int) (x2 : List Int) (j : List Dp → Option (List Dp)) (R : List Dp) : ∀ (m : Nat) (x : List Dp) (q : Int),Kn a b c x2 j m x q = some R → ∃ out,j out = some R ∧ out.map (·.x_) = x.map (·.x_)
 | 0,_,_,h=>by rw [Kn] at h; cases h
 | m + 1,x,q,h=>by
  rw [Kn] at h
  split at h
  ·obtain ⟨f,_,h⟩:=OL (Xk h).2
   obtain ⟨hb,h⟩:=Xk h
   obtain ⟨out,e,g⟩:=QS a b c x2 j R m _ _ h
   exact ⟨out,e,by rw [g,setX _ _ _ hb]⟩
  ·exact ⟨x,h,rfl⟩
theorem QT (x2 : List Int) (l : List Dj) (t : Jx) (j : List Dp → Option (List Dp)) (R : List Dp) : ∀ (m : Nat) (x : List Dp) (q : Int),Jo x2 l t j m x q = some R → ∃ out,j out = some R ∧ out.map (·.x_) = x.map (·.x_)
 | 0,_,_,h=>by rw [Jo] at h; cases h
 | m + 1,x,q,h=>by
  rw [Jo] at h
  simp only [Jl] at h
  split at h
  ·obtain ⟨c,d,h⟩:=LC _ _ _ _ _ _ _ _ _ h
   have h:=(Xk h).2
   split at h
   all_goals
    obtain ⟨o,h,g⟩:=QS _ _ _ _ _ _ _ _ _ (Xk h).2
    obtain ⟨o2,h,g2⟩:=QT x2 l t j R m _ _ h
    exact ⟨o2,h,g2.trans g⟩
  ·exact ⟨x,h,rfl⟩
theorem raceX (t : Jx) (g : List Dj) (R : List Dp) (h : Qd t g = some R) : R.map (·.x_) = g.filter Zq:=by
 unfold Qd at h
 simp only [Jl] at h
 obtain ⟨mp,sw,out,h,e⟩:=LB _ _ _ _ _ _ _ _ h
 obtain ⟨o,h,e2⟩:=QT _ _ _ _ _ _ _ _ h
 rw [← Option.some.inj h,e2,e]
 rfl
theorem UT (t : Jx) (j : List Dp → Option (List Dp)) (R : List Dp) : ∀ (Gs : List (List Dj)) (i : Nat) (x : List Dp),La t j Gs i x = some R → ∃ out,j out = some R ∧ out.map (·.x_) = x.map (·.x_) ++ Gs.flatten.filter Zq
 | [],i,x,h=>⟨x,h,by simp⟩
 | g :: Gs,i,x,h=>by
  rw [La] at h
  obtain ⟨r,h1,h⟩:=OL h
  obtain ⟨out,h2,e⟩:=UT t j R Gs (i + 1) _ (Xk h).2
  exact ⟨out,h2,by rw [e,List.map_append,raceX t g r h1,List.flatten_cons,List.filter_append,List.append_assoc]⟩
theorem rowsX (t : Jx) (Gs : List (List Dj)) (h1 : ∀ g ∈ Gs,One g ∧ g.length ≤ 5) (h2 : Gs.Pairwise (fun g g'=>∀ x ∈ g,∀ y ∈ g',x.Race ≠ y.Race)) (hl : Gs.flatten.length ≤ 15) {R : List Dp} (h : Nn t Gs.flatten = some R) : R.map (·.x_) = Gs.flatten.filter Zq:=by
 unfold Nn at h
 rw [GU Gs (fun g hg=>(h1 g hg).1) h2 (by omega)] at h
 simp only [Option.bind_some,Jl] at h
 obtain ⟨out,h,e⟩:=UT t _ R Gs 0 [] h
 rw [← Option.some.inj h,e]
 rfl
end Go.Proofs.YtfdmkmnjfhbliaaGreatDoor
namespace Go.Proofs.YtfdmkmnjfhbliaaGreatDoor
open Go
theorem QU {a b c : ByteArray} (h : a ++ b = a ++ c) : b = c:=by
 have h1:=congrArg (fun x=>x.data.toList) h
 simp only [ByteArray.data_append,Array.toList_append] at h1
 have h2:=List.append_cancel_left h1
 obtain ⟨⟨b⟩⟩:=b
 obtain ⟨⟨c⟩⟩:=c
 simp only at h2
 rw [h2]
theorem QV (G : List Dm) (k : ByteArray) : ∀ (m : List (ByteArray × Dk)),(∀ y ∈ G,y.Key ≠ k) → Qm (ofS G m) k = Qm m k:=by
 unfold ofS
 induction G with
 | nil=>intro m _; rfl
 | cons g G ih =>
  intro m h
  rw [List.foldl_cons,ih _ fun y hy=>h y (List.mem_cons_of_mem _ hy)]
  have e : Qm (Gk m g.Key g.Points) k = if k = g.Key then some g.Points else Qm m k:=BA g.Key k g.Points m 0
  rw [e,if_neg fun e=>h g List.mem_cons_self e.symm]
theorem YM (G : List Dm) (g : Dm) (hg : g ∈ G) (hn : (G.map (·.Key)).Nodup) : ∀ (m : List (ByteArray × Dk)),Qm (ofS G m) g.Key = some g.Points:=by
 induction G with
 | nil=>cases hg
 | cons z G ih =>
  intro m
  simp only [List.map_cons,List.nodup_cons] at hn
  have e : ofS (z :: G) m = ofS G (Gk m z.Key z.Points):=rfl
  rw [e]
  rcases List.mem_cons.1 hg with rfl | hg
  ·rw [QV G g.Key _ fun y hy e=>hn.1 (by rw [← e]; exact List.mem_map_of_mem hy)]
   have e : Qm (Gk m g.Key g.Points) g.Key = if g.Key = g.Key then some g.Points else Qm m g.Key:=BA g.Key g.Key g.Points m 0
   rw [e,if_pos rfl]
  ·exact ih hg hn.2 _
theorem OM {p : Jr} (hp : Vd p) {F : List Di} (h : FG F) {r : Du} (hr : r ∈ p.Races) : (Qz p F r).map (·.x_) = (Ql r F).filter Zq:=by
 obtain ⟨_,h1,_⟩:=Zp hp h hr
 have hG:=KV (hp.races r hr).2 (AG h r)
 have e:=EF (Ql r F)
 rw [← e] at h1
 have:=rowsX p.Table (OI (Ql r F)) hG.one hG.ne hG.len (R:=Qz p F r) h1
 rw [this,e]
theorem SK {F : List Di} (h : FG F) {r : Du} {x : Dp} (hx : x.x_ ∈ Ql r F) : (gvS x).Key = (r.Key ++ On) ++ x.x_.Who:=by
 have:=((AG h r).row x.x_ hx).1
 unfold gvS
 simp only
 rw [this]
theorem QW {F : List Di} (h : FG F) (r : Du) : ((Ql r F).map (·.Who)).Nodup:=List.pairwise_map.2 (AG h r).who
theorem pts_row {p : Jr} (hp : Vd p) {F : List Di} (h : FG F) {r : Du} (hr : r ∈ p.Races) {x : Dp} (hx : x ∈ Qz p F r) : ptS (ofS ((Qz p F r).map gvS) []) ((r.Key ++ On) ++ x.x_.Who) = x.points_:=by
 obtain ⟨_,_,hR⟩:=Zp hp h hr
 have hk:=SK h (r:=r) (hR x hx).1
 have hn : (((Qz p F r).map gvS).map (·.Key)).Nodup:=by
  have e : ((Qz p F r).map gvS).map (·.Key) = (((Qz p F r).map (·.x_)).map (·.Who)).map fun w=>(r.Key ++ On) ++ w:=by
   rw [List.map_map,List.map_map,List.map_map]
   exact List.map_congr_left fun z hz=>SK h (hR z hz).1
  rw [e,OM hp h hr]
  have h1 : (((Ql r F).filter Zq).map (·.Who)).Nodup:=(QW h r).sublist (List.filter_sublist.map _)
  exact List.pairwise_map.2 (h1.imp fun {a b} hne e=>hne (QU e))
 have:=YM _ (gvS x) (List.mem_map_of_mem hx) hn []
 rw [hk] at this
 unfold ptS Ec
 rw [this]
 rfl
theorem YN {p : Jr} (hp : Vd p) {F : List Di} (h : FG F) {r : Du} (hr : r ∈ p.Races) {w : ByteArray} (hw : ∀ x ∈ Qz p F r,x.x_.Who ≠ w) : ptS (ofS ((Qz p F r).map gvS) []) ((r.Key ++ On) ++ w) = fr 0:=by
 obtain ⟨_,_,hR⟩:=Zp hp h hr
 have : Qm (ofS ((Qz p F r).map gvS) []) ((r.Key ++ On) ++ w) = none:=by
  rw [QV]
  ·rfl
  ·intro y hy e
   obtain ⟨x,hx,rfl⟩:=List.mem_map.1 hy
   rw [SK h (hR x hx).1] at e
   exact hw x hx (QU e)
 unfold ptS
 rw [this,if_neg (by simp),OJ]
theorem WI {p : Jr} (hp : Vd p) {F : List Di} (h : FG F) {r : Du} (hr : r ∈ p.Races) {y : Je} (hy : y ∈ Wa p F r) (h0 : y.Rank = 0) : y.Points = fr 0:=by
 obtain ⟨z,hz,e⟩:=List.mem_map.1 hy
 have hz0 : z.Rank = 0:=by rw [← e,Wp] at h0; exact h0
 have hp0 : y.Points = ptS (ofS ((Qz p F r).map gvS) []) ((r.Key ++ On) ++ z.Who):=by rw [← e,Wp]
 rw [hp0]
 refine YN hp h hr fun x hx e=>?_
 have hx1 : x.x_ ∈ (Ql r F).filter Zq:=by rw [← OM hp h hr]; exact List.mem_map_of_mem hx
 obtain ⟨hx2,hx3⟩:=List.mem_filter.1 hx1
 have hz2 : scS (Wo (Sp r.Key F) []) r z ∈ Ql r F:=by unfold Ql; exact List.mem_map_of_mem hz
 have hw : (scS (Wo (Sp r.Key F) []) r z).Who = x.x_.Who:=e.symm
 have hxz : x.x_ = scS (Wo (Sp r.Key F) []) r z:=by
  have hnd:=QW h r
  obtain ⟨d1,d2,e1⟩:=List.append_of_mem hx2
  rw [e1] at hz2 hnd
  rw [List.map_append,List.map_cons,List.nodup_append] at hnd
  rcases List.mem_append.1 hz2 with hm | hm
  ·exact absurd hw (hnd.2.2 _ (List.mem_map_of_mem hm) _ (by simp))
  ·rcases List.mem_cons.1 hm with hm | hm
   ·exact hm.symm
   ·exact absurd (hw ▸ List.mem_map_of_mem (f:=(·.Who)) hm) (List.nodup_cons.1 hnd.2.1).1
 rw [hxz] at hx3
 unfold Zq scS at hx3
 rw [decide_eq_true (show z.Rank = 0 from hz0)] at hx3
 cases hx3
end Go.Proofs.YtfdmkmnjfhbliaaGreatDoor
