/- The plain law of ResultsHangTogether. No program stands here but its twins. -/
import Derived.Test.YtfcmmengcdebnaaGreatDoorPPlan
import Derived.Test.YtfcmmengcdebnaaGreatDoorPMeetSort
/- Ranks that the stream gives pass the program's check. No program stands here but its twins. -/
namespace Go.Proofs.YtfcmmengcdebnaaGreatDoor
open Go
def VJ (g : List Dm) : Prop:=∀ a x b,g = a ++ x :: b → 0 < x.Rank → x.Rank = (a.length : Int) + 1 ∨ ∃ d y,a = d ++ [y] ∧ y.Rank = x.Rank
structure GGd (race : ByteArray) (rel : Bool) (g : List Dm) : Prop where
 len : g.length ≤ 5
 row : ∀ x ∈ g,x.Race = race ∧ x.Relay = rel ∧ x.Who ∈ FI ∧ x.Club ∈ GQ ∧ 0 ≤ x.Rank ∧ x.Rank ≤ 6
 asc : g.Pairwise fun x y=>DC x y = true
 who : g.Pairwise fun x y=>x.Who ≠ y.Who
 rank : VJ g
structure LGd (Gs : List (List Dm)) : Prop where
 grp : ∀ g ∈ Gs,g ≠ [] ∧ ∃ race rel,race ∈ JA ∧ GGd race rel g
 diff : Gs.Pairwise fun g g'=>∀ x ∈ g,∀ y ∈ g',cB x.Race y.Race < 0
 len : Gs.flatten.length ≤ 15
theorem LGd.one {Gs : List (List Dm)} (h : LGd Gs) : ∀ g ∈ Gs,One g ∧ g.length ≤ 5:=fun g hg=>by
 obtain ⟨h1,race,rel,_,h2⟩:=h.grp g hg
 exact ⟨⟨h1,fun x hx y hy=>by rw [(h2.row x hx).1,(h2.row y hy).1]⟩,h2.len⟩
theorem LGd.ne {Gs : List (List Dm)} (h : LGd Gs) : Gs.Pairwise fun g g'=>∀ x ∈ g,∀ y ∈ g',x.Race ≠ y.Race :=
 h.diff.imp fun hd x hx y hy e=>by have:=hd x hx y hy; rw [e,Te] at this; omega
theorem LGd.row {Gs : List (List Dm)} (h : LGd Gs) : ∀ x ∈ Gs.flatten,x.Race ∈ JA ∧ x.Who ∈ FI ∧ x.Club ∈ GQ ∧ 0 ≤ x.Rank ∧ x.Rank ≤ 6:=fun x hx=>by
 obtain ⟨g,hg,hx⟩:=List.mem_flatten.1 hx
 obtain ⟨_,race,rel,hr,h2⟩:=h.grp g hg
 obtain ⟨r1,_,r3,r4,r5⟩:=h2.row x hx
 exact ⟨by rw [r1]; exact hr,r3,r4,r5⟩
theorem LGd.asc {Gs : List (List Dm)} (h : LGd Gs) : Gs.flatten.Pairwise fun x y=>DC x y = true:=by
 rw [List.pairwise_flatten]
 refine ⟨fun g hg=>?_,h.diff.imp fun hd x hx y hy=>BZ.2 (.inl (hd x hx y hy))⟩
 obtain ⟨_,race,rel,_,h2⟩:=h.grp g hg
 exact h2.asc
theorem LGd.who {Gs : List (List Dm)} (h : LGd Gs) : Gs.flatten.Pairwise fun x y=>¬ (x.Race = y.Race ∧ x.Who = y.Who):=by
 rw [List.pairwise_flatten]
 refine ⟨fun g hg=>?_,h.ne.imp fun hd x hx y hy e=>hd x hx y hy e.1⟩
 obtain ⟨_,race,rel,_,h2⟩:=h.grp g hg
 exact h2.who.imp fun hne e=>hne e.2
theorem keyP {s : ByteArray} (h : s ∈ JA ∨ s ∈ FI ∨ (s ∈ GQ ∧ s ≠ An)) : Gf s = some true:=by
 simp only [JA,FI,GQ,List.mem_cons,List.not_mem_nil,or_false] at h
 rcases h with (rfl | rfl | rfl) | (rfl | rfl | rfl | rfl | rfl) | ⟨rfl | rfl | rfl | rfl | rfl,hn⟩
 any_goals (decide +kernel)
 exact (hn rfl).elim
theorem OE {x y : Dm} (hx : 0 ≤ x.Rank ∧ x.Rank ≤ 6) (hy : 0 ≤ y.Rank ∧ y.Rank ≤ 6) (h : DC x y = true) : Rz x y < 0:=by
 have hc : Hp x.Race y.Race = cB x.Race y.Race:=rfl
 have hw : Hp x.Who y.Who = cB x.Who y.Who:=rfl
 have hor : ∀ a b c : Int,Tl [a,b,c] = if a ≠ 0 then a else if b ≠ 0 then b else c:=fun a b c=>by
  unfold Tl
  simp only [Jc]
  rw [Mi,Mi,Mi,Mi]
  by_cases h1 : a = 0
  ·by_cases h2 : b = 0
   ·by_cases h3 : c = 0
    ·simp [h1,h2,h3]
    ·simp [h1,h2,h3]
   ·simp [h1,h2]
  ·simp [h1]
 have hk : Le x.Rank y.Rank = kR x - kR y:=by
  have k1:=@VF x ⟨hx.1,by omega⟩
  have k2:=@VF y ⟨hy.1,by omega⟩
  unfold Le
  simp only [Jc]
  have e : kR x - kR y = W (kR x - kR y):=(Nu (by omega) (by omega)).symm
  rw [e]
  unfold kR
  by_cases a : x.Rank = 0
  ·by_cases b : y.Rank = 0
   ·simp [a,b]
   ·simp [a,b]
  ·by_cases b : y.Rank = 0
   ·simp [a,b]
   ·simp [a,b]
 unfold Rz
 rw [hc,hw,hk,hor]
 rw [BZ] at h
 rcases h with h | ⟨e,h⟩
 ·rw [if_pos (by omega)]; exact h
 ·rw [e,Te,if_neg (by simp)]
  rcases h with h | ⟨k,h⟩
  ·rw [if_pos (by omega)]; omega
  ·rw [if_neg (by omega)]; exact h
theorem RX (j : List (Fh × Bool) → Option Int) (l : List Dm) (hw : l.Pairwise fun x y=>¬ (x.Race = y.Race ∧ x.Who = y.Who)) : ∀ (ys dn : List Dm) (m : List (Fh × Bool)),l = dn ++ ys → (∀ e,Ea m e false = true → ∃ x ∈ dn,e = Fh.mk x.Race x.Who) →
  ∃ m',Ky j ys dn.length m = j m'
 | [],dn,m,_,_=>⟨m,rfl⟩
 | y :: ys,dn,m,h1,h2=>by
  have hno : Ea m (Fh.mk y.Race y.Who) false = false:=by
   cases hm : Ea m (Fh.mk y.Race y.Who) false with
   | false=>rfl
   | true =>
    obtain ⟨x,hx,e⟩:=h2 _ hm
    rw [h1,List.pairwise_append] at hw
    injection e with e1 e2
    exact (hw.2.2 x hx y List.mem_cons_self ⟨e1.symm,e2.symm⟩).elim
  rw [Ky,hno,if_neg (by simp)]
  obtain ⟨m',e⟩:=RX j l hw ys (dn ++ [y]) (Gl m (Fh.mk y.Race y.Who) true) (by rw [h1]; simp) (fun e he=>by
   rw [Wt] at he
   split at he
   ·rename_i hk; exact ⟨y,by simp,hk⟩
   ·obtain ⟨x,hx,e'⟩:=h2 e he; exact ⟨x,by simp [hx],e'⟩)
  rw [List.length_append,List.length_singleton] at e
  exact ⟨m',e⟩
theorem RY (g : List Dm) (g0 : Dm) (hg0 : nth g 0 = g0) (hin : inB 0 g.length = true) : ∀ (ys : List Dm) (i : Nat),(∀ y ∈ ys,y.Relay = g0.Relay) → Fk g (some (-1)) ys i = some (-1)
 | [],_,_=>rfl
 | y :: ys,i,h=>by
  rw [Fk]
  unfold Si
  rw [Fx hin,hg0,h y List.mem_cons_self]
  simp only [decide_true,Bool.not_true,Option.bind_some,Bool.false_eq_true,if_false]
  exact RY g g0 hg0 hin ys (i + 1) fun z hz=>h z (List.mem_cons_of_mem _ hz)
theorem OF (j : Option Int) : ∀ (Gs : List (List Dm)) (i : Nat),(∀ g ∈ Gs,g ≠ [] ∧ ∃ race rel,race ∈ JA ∧ GGd race rel g) → Ke j Gs i = j
 | [],_,_=>rfl
 | g :: Gs,i,h=>by
  obtain ⟨h1,race,rel,_,h2⟩:=h g List.mem_cons_self
  rw [Ke]
  unfold Jg Jv
  simp only [Jc]
  have hp:=List.length_pos_iff.2 h1
  have hin : inB 0 g.length = true:=Jf.2 (by omega)
  have hm : nth g 0 ∈ g:=List.mem_of_getElem? (Dx hin).1
  rw [RY g (nth g 0) rfl hin g 0 fun y hy=>by rw [(h2.row y hy).2.1,(h2.row _ hm).2.1]]
  simp only [Option.bind_some]
  rw [if_neg (by simp)]
  exact OF j Gs (i + 1) fun g' h'=>h g' (List.mem_cons_of_mem _ h')
theorem OG (g : List Dm) (hr : VJ g) (hl : g.length ≤ 5) (j : Option Int) : ∀ (ys dn : List Dm),g = dn ++ ys → Kz g j ys dn.length = j
 | [],_,_=>rfl
 | y :: ys,dn,h=>by
  have hdl : dn.length ≤ 5:=by rw [h] at hl; simp at hl; omega
  have ih:=OG g hr hl j ys (dn ++ [y]) (by rw [h]; simp)
  rw [List.length_append,List.length_singleton] at ih
  rw [Kz]
  simp only [Jc]
  rw [Nu (by omega) (by omega)]
  by_cases hc : ((decide (0 < y.Rank)) && (!decide (y.Rank = ((dn.length : Int) + 1)))) = true
  ·rw [if_pos hc]
   simp only [Bool.and_eq_true,decide_eq_true_eq,Bool.not_eq_true',decide_eq_false_iff_not] at hc
   rcases hr dn y ys h hc.1 with h1 | ⟨d,p,e,h1⟩
   ·exact (hc.2 h1).elim
   ·subst e
    have hlen : ((d ++ [p]).length : Int) = (d.length : Int) + 1:=by simp
    have hn : nth g (d.length : Int) = p:=by
     have : g = d ++ p :: (y :: ys):=by rw [h]; simp
     rw [this]; exact Wu d p (y :: ys) rfl
    have hin : inB (d.length : Int) g.length = true:=Jf.2 (by rw [h]; simp; omega)
    have hz : decide (((d ++ [p]).length : Int) = 0) = false:=decide_eq_false (by omega)
    rw [hz,if_neg (by simp),hlen,show (d.length : Int) + 1 - 1 = (d.length : Int) by omega,Nu (by omega) (by omega),Fx hin,hn,h1]
    simp only [decide_true,Bool.not_true,Bool.or_self,Bool.and_false,Bool.false_eq_true,if_false]
    exact ih
  ·rw [if_neg hc]
   simp only [Bool.not_eq_true] at hc
   rw [if_neg (by rw [hc]; simp)]
   exact ih
theorem OH (j : Option Int) : ∀ (Gs : List (List Dm)) (i : Nat),(∀ g ∈ Gs,g ≠ [] ∧ ∃ race rel,race ∈ JA ∧ GGd race rel g) → Jo j Gs i = j
 | [],_,_=>rfl
 | g :: Gs,i,h=>by
  obtain ⟨h1,race,rel,_,h2⟩:=h g List.mem_cons_self
  rw [Jo]
  simp only [Jc]
  have:=OG g h2.rank h2.len (Jo j Gs (i + 1)) g [] rfl
  rw [List.length_nil] at this
  rw [this]
  exact OH j Gs (i + 1) fun g' h'=>h g' (List.mem_cons_of_mem _ h')
theorem OI (j : Option Int) : ∀ (Gs : List (List Dm)) (i : Nat),(∀ g ∈ Gs,g.length ≤ 5) → Kf j Gs i = j
 | [],_,_=>rfl
 | g :: Gs,i,h=>by
  have hl:=h g List.mem_cons_self
  rw [Kf]
  simp only [Jc]
  rw [Mb,if_neg (by simp; omega)]
  exact OI j Gs (i + 1) fun g' h'=>h g' (List.mem_cons_of_mem _ h')
theorem OJ {Gs : List (List Dm)} (h : LGd Gs) : Qx Gs.flatten = some 0:=by
 unfold Qx
 simp only [Jc]
 have hlen:=h.len
 obtain ⟨m',e⟩:=RX (fun _=>Option.bind (Sh Gs.flatten) (fun r1=>Ke (Jo (Kf (some 0) r1 0) r1 0) r1 0)) Gs.flatten h.who Gs.flatten [] [] rfl (fun e he=>by simp [Ea,Qy,Oc] at he)
 rw [List.length_nil] at e
 rw [e,IY Gs (fun g hg=>(h.one g hg).1) h.ne (by omega),Option.bind_some,OF _ Gs 0 h.grp,OH _ Gs 0 h.grp,OI _ Gs 0 fun g hg=>(h.one g hg).2]
theorem GS (l : List Dm) (hl : l.length ≤ 15) (hr : ∀ x ∈ l,x.Race ∈ JA ∧ x.Who ∈ FI ∧ x.Club ∈ GQ ∧ 0 ≤ x.Rank ∧ x.Rank ≤ 6) (ha : l.Pairwise fun x y=>DC x y = true) (j : Option Int) : ∀ (ys dn : List Dm),l = dn ++ ys → Jm l j ys dn.length = j
 | [],_,_=>rfl
 | y :: ys,dn,h=>by
  have ih:=GS l hl hr ha j ys (dn ++ [y]) (by rw [h]; simp)
  rw [List.length_append,List.length_singleton] at ih
  obtain ⟨r1,r2,r3,r4⟩:=hr y (by rw [h]; simp)
  have hdl : dn.length ≤ 15:=by rw [h] at hl; simp at hl; omega
  have k1:=keyP (.inl r1)
  have k2:=keyP (.inr (.inl r2))
  have hw : Dv y.Rank 0 300 = true:=by unfold Dv; simp; omega
  rw [Jm,k1]
  simp only [Jc,Option.bind_some,Bool.not_true,Bool.false_eq_true,if_false,k2,Bool.or_self,hw,Bool.false_or]
  have hclub : ∀ Z : Option Int,(if (!decide (y.Club = An)) = true then Option.bind (Gf y.Club) (fun r3=>if ((!decide (y.Club = An)) && (!r3)) = true then some 5 else Z) else if ((!decide (y.Club = An)) && true) = true then some 5 else Z) = Z:=by
   intro Z
   by_cases hc : y.Club = An
   ·simp [hc]
   ·rw [if_pos (by simp [hc]),keyP (.inr (.inr ⟨r3,hc⟩)),Option.bind_some,if_neg (by simp)]
  refine (hclub _).trans ?_
  rcases List.eq_nil_or_concat dn with rfl | ⟨d,x,rfl⟩
  ·rw [if_neg (by simp)]; simpa using ih
  ·simp only [List.concat_eq_append] at *
   have hlen : ((d ++ [x]).length : Int) = (d.length : Int) + 1:=by simp
   have hn : nth l (d.length : Int) = x:=by
    have : l = d ++ x :: (y :: ys):=by rw [h]; simp
    rw [this]; exact Wu d x (y :: ys) rfl
   have hin : inB (d.length : Int) l.length = true:=Jf.2 (by rw [h]; simp; omega)
   have hlt : DC x y = true:=by
    rw [h,List.pairwise_append] at ha
    exact ha.2.2 x (by simp) y (by simp)
   have hneg:=OE (hr x (by rw [h]; simp)).2.2.2 r4 hlt
   rw [if_pos (decide_eq_true (by omega)),hlen,show (d.length : Int) + 1 - 1 = (d.length : Int) by omega,Nu (by omega) (by omega),Fx hin,hn,if_neg (by simp; omega)]
   exact ih
theorem TN {Gs : List (List Dm)} (h : LGd Gs) : Ql Gs.flatten = some 0:=by
 have hl:=h.len
 unfold Ql
 rw [if_neg (by simp only [decide_eq_true_eq]; omega)]
 simp only [Jc]
 have:=GS Gs.flatten hl h.row h.asc (Option.bind (Qx Gs.flatten) (fun r4=>some r4)) Gs.flatten [] rfl
 rw [List.length_nil] at this
 rw [this,OJ h]; rfl
theorem both_ok {t : Kr} {Gs : List (List Dm)} (ht : KW t) (h : LGd Gs) : Sa t Gs.flatten = some 0:=by
 unfold Sa
 rw [OA ht,TN h]; rfl
end Go.Proofs.YtfcmmengcdebnaaGreatDoor
/- Results of a race: who has Qt,the ranks,the points. Conditions: a right plan,right deeds with few names. No program stands here but its twins. -/
namespace Go.Proofs.YtfcmmengcdebnaaGreatDoor
open Go
theorem MK : ∀ (l : List Dq) (i : Nat) (pt pr : Int) (z : Dq),z ∈ rkF i pt pr l → ∃ x ∈ l,z.Who = x.Who ∧ z.Time = x.Time ∧ z.Fault = x.Fault
 | [],_,_,_,_,h=>by cases h
 | x :: xs,i,pt,pr,z,h=>by
  rw [rkF] at h
  rcases List.mem_cons.1 h with rfl | h
  ·exact ⟨x,List.mem_cons_self,rfl,rfl,rfl⟩
  ·obtain ⟨y,hy,e⟩:=MK xs _ _ _ z h
   exact ⟨y,List.mem_cons_of_mem _ hy,e⟩
theorem RZ : ∀ (l : List Dq) (i : Nat) (pt pr : Int),(rkF i pt pr l).map (·.Who) = l.map (·.Who)
 | [],_,_,_=>rfl
 | x :: xs,i,pt,pr=>by simp only [rkF,List.map_cons,RZ xs]
def Rk2 (a b : Dq) : Prop:=a.Time ≤ b.Time ∧ a.Rank ≤ b.Rank ∧ (a.Rank = b.Rank ↔ a.Time = b.Time) ∧ (a.Time = b.Time → cB a.Who b.Who < 0)
theorem PR : ∀ (l : List Dq) (i : Nat) (pt pr : Int),l.Pairwise (fun a b=>EA a b = true) → (i = 0 ∨ (1 ≤ pr ∧ pr ≤ (i : Int) ∧ ∀ x ∈ l,pt ≤ x.Time)) →
  (∀ z ∈ rkF i pt pr l,1 ≤ z.Rank ∧ z.Rank ≤ (i : Int) + l.length ∧ (i = 0 ∨ (pt ≤ z.Time ∧ pr ≤ z.Rank ∧ (z.Rank = pr ↔ z.Time = pt)))) ∧ (rkF i pt pr l).Pairwise Rk2
 | [],_,_,_,_,_=>⟨fun z h=>absurd h (by simp [rkF]),by simp [rkF]⟩
 | x :: xs,i,pt,pr,hp,hi=>by
  rw [List.pairwise_cons] at hp
  have hle : ∀ y ∈ xs,x.Time ≤ y.Time ∧ (x.Time = y.Time → cB x.Who y.Who < 0):=fun y hy=>by
   have:=FF.1 (hp.1 y hy)
   omega
  have hx : i = 0 ∨ pt ≤ x.Time:=hi.imp id fun h=>h.2.2 x List.mem_cons_self
  generalize hr : (if decide (0 < (i : Int)) && decide (x.Time = pt) then pr else (i : Int) + 1) = r
  have hr' : rkF i pt pr (x :: xs) = Dq.mk x.Who r x.Time x.Fault :: rkF (i + 1) x.Time r xs:=by rw [rkF]; simp only [hr]
  have hrr : (0 < i ∧ x.Time = pt ∧ r = pr) ∨ (r = (i : Int) + 1 ∧ (i = 0 ∨ x.Time ≠ pt)):=by
   rw [← hr]
   by_cases h : 0 < i
   ·by_cases h2 : x.Time = pt
    ·left
     rw [if_pos (by simp [h,h2])]
     exact ⟨h,h2,rfl⟩
    ·right
     rw [if_neg (by simp [h2])]
     exact ⟨rfl,.inr h2⟩
   ·right
    rw [if_neg (by simp; omega)]
    exact ⟨rfl,.inl (by omega)⟩
  have hr1 : 1 ≤ r ∧ r ≤ (i : Int) + 1:=by
   rcases hrr with ⟨h1,_,h3⟩ | ⟨h1,_⟩
   ·rcases hi with h | ⟨h4,h5,_⟩ <;> omega
   ·omega
  obtain ⟨A,B⟩:=PR xs (i + 1) x.Time r hp.2 (.inr ⟨hr1.1,by push_cast; omega,fun y hy=>(hle y hy).1⟩)
  rw [hr']
  refine ⟨fun z hz=>?_,List.pairwise_cons.2 ⟨fun z hz=>?_,B⟩⟩
  ·rcases List.mem_cons.1 hz with rfl | hz
   ·refine ⟨hr1.1,by simp only [List.length_cons]; push_cast; omega,?_⟩
    rcases hi with h | ⟨h4,h5,h6⟩
    ·exact .inl h
    ·right
     have:=h6 x List.mem_cons_self
     simp only
     rcases hrr with ⟨h1,h2,h3⟩ | ⟨h1,h2⟩ <;> omega
   ·obtain ⟨a1,a2,a3⟩:=A z hz
    refine ⟨a1,by simp only [List.length_cons]; push_cast at a2 ⊢; omega,?_⟩
    rcases hi with h | ⟨h4,h5,h6⟩
    ·exact .inl h
    ·right
     have:=h6 x List.mem_cons_self
     rcases a3 with a3 | ⟨a3,a4,a5⟩
     ·omega
     ·rcases hrr with ⟨h1,h2,h3⟩ | ⟨h1,h2⟩ <;> omega
  ·obtain ⟨a1,a2,a3⟩:=A z hz
   obtain ⟨y,hy,y1,y2,_⟩:=MK xs _ _ _ z hz
   obtain ⟨l1,l2⟩:=hle y hy
   rcases a3 with a3 | ⟨a3,a4,a5⟩
   ·omega
   ·refine ⟨by simp only; omega,by simp only; omega,by simp only; omega,?_⟩
    simp only
    rw [y1]
    intro e
    exact l2 (by omega)
theorem SA : ∀ (l : List Dq) (i : Nat) (pt pr : Int) (a : List Dq) (x : Dq) (b : List Dq),rkF i pt pr l = a ++ x :: b → x.Rank = (i : Int) + a.length + 1 ∨ (a = [] ∧ x.Rank = pr ∧ 0 < i) ∨ ∃ d y,a = d ++ [y] ∧ y.Rank = x.Rank
 | [],i,pt,pr,a,x,b,h=>by simp [rkF] at h
 | z :: zs,i,pt,pr,a,x,b,h=>by
  rw [rkF] at h
  cases a with
  | nil =>
   simp only [List.nil_append,List.cons.injEq] at h
   rw [← h.1]
   show (if (decide (0 < (i : Int)) && decide (z.Time = pt)) = true then pr else (i : Int) + 1) = _ ∨ (_ ∧ (if (decide (0 < (i : Int)) && decide (z.Time = pt)) = true then pr else (i : Int) + 1) = pr ∧ _) ∨ ∃ d y,_ ∧ Dq.Rank y = (if (decide (0 < (i : Int)) && decide (z.Time = pt)) = true then pr else (i : Int) + 1)
   by_cases hc : (decide (0 < (i : Int)) && decide (z.Time = pt)) = true
   ·rw [if_pos hc]
    refine .inr (.inl ⟨rfl,rfl,?_⟩)
    simp at hc
    omega
   ·rw [if_neg hc]
    exact .inl (by simp)
  | cons a0 a =>
   simp only [List.cons_append,List.cons.injEq] at h
   rcases SA zs (i + 1) _ _ a x b h.2 with e | ⟨e1,e2,_⟩ | ⟨d,y,e1,e2⟩
   ·refine .inl ?_
    simp only [List.length_cons]
    push_cast at e ⊢
    omega
   ·refine .inr (.inr ⟨[],a0,by rw [e1]; rfl,?_⟩)
    rw [← h.1,e2]
   ·exact .inr (.inr ⟨a0 :: d,y,by rw [e1]; rfl,e2⟩)
def swS (race : ByteArray) (m : List (ByteArray × Dk)) (y : Dk) : List (ByteArray × Dk):=if decide (y.Race = race) && decide (y.Kind = 3) then Gl m y.Who y else m
def swM (race : ByteArray) (l : List Dk) : List (ByteArray × Dk):=l.foldl (swS race) []
theorem PS (race : ByteArray) : ∀ (ys : List Dk) (i : Nat) (m : List (ByteArray × Dk)),Od race (fun x=>x) ys i m = ys.foldl (swS race) m
 | [],_,m=>rfl
 | y :: ys,i,m=>by
  rw [Od]
  simp only [On,List.foldl_cons]
  unfold swS
  cases hc : (decide (y.Race = race) && decide (y.Kind = 3)) with
  | true=>rw [if_pos rfl,if_pos rfl]; exact PS race ys (i + 1) _
  | false=>rw [if_neg (by simp),if_neg (by simp)]; exact PS race ys (i + 1) _
theorem SB (p : Iw) (l : List Dk) (race : ByteArray) : Hk p l race = swM race l:=by
 unfold Hk
 rw [On]
 exact PS race l 0 []
theorem swM_get {race : ByteArray} {l : List Dk} {w : ByteArray} {y : Dk} (h : Qy (swM race l) w = some y) : y ∈ l ∧ y.Kind = 3 ∧ y.Race = race ∧ y.Who = w:=by
 have key : ∀ (ys : List Dk) (m : List (ByteArray × Dk)),(∀ z ∈ ys,z ∈ l) → (∀ w y,Qy m w = some y → y ∈ l ∧ y.Kind = 3 ∧ y.Race = race ∧ y.Who = w) → ∀ w y,Qy (ys.foldl (swS race) m) w = some y → y ∈ l ∧ y.Kind = 3 ∧ y.Race = race ∧ y.Who = w:=by
  intro ys
  induction ys with
  | nil=>intro m _ h; exact h
  | cons z ys ih =>
   intro m hz hm
   rw [List.foldl_cons]
   refine ih _ (fun u hu=>hz u (List.mem_cons_of_mem _ hu)) fun w y hy=>?_
   unfold swS at hy
   split at hy
   ·rename_i hc
    simp only [Bool.and_eq_true,decide_eq_true_eq] at hc
    have e : Qy (Gl m z.Who z) w = if w = z.Who then some z else Qy m w:=BW z.Who w z m 0
    rw [e] at hy
    split at hy
    ·rename_i hw
     obtain rfl:=Option.some.inj hy
     exact ⟨hz z List.mem_cons_self,hc.2,hc.1,hw.symm⟩
    ·exact hm w y hy
   ·exact hm w y hy
 exact key l [] (fun _ h=>h) (fun w y h=>by simp [Qy,Oc] at h) w y h
structure FG (F : List Dk) : Prop where
 ok : ∀ d ∈ F,DG d ∧ d.Who ∈ FJ ∧ d.Club ∈ Ye
 len : F.length ≤ 40
theorem OK {α : Type} [DecidableEq α] : ∀ (l l' : List α),l.Nodup → (∀ x ∈ l,x ∈ l') → l.length ≤ l'.length
 | [],_,_,_=>Nat.zero_le _
 | x :: l,l',h,hm=>by
  rw [List.nodup_cons] at h
  have hx:=hm x List.mem_cons_self
  have:=OK l (l'.erase x) h.2 fun y hy=>(List.mem_erase_of_ne (fun e=>h.1 (by rw [← e]; exact hy))).2 (hm y (List.mem_cons_of_mem _ hy))
  rw [List.length_erase_of_mem hx] at this
  have:=List.length_pos_of_mem hx
  simp only [List.length_cons]
  omega
theorem JC {F : List Dk} (h : FG F) {d : Dk} (hd : d ∈ F) (hk : d.Kind ≠ 4) : d.Who ∈ [Wz,BE,BF,BG] ∧ Gf d.Who = some true ∧ Gf d.Race = some true:=by
 obtain ⟨g,n,_⟩:=h.ok d hd
 obtain ⟨h1,h2⟩:=g.who hk
 have e0 : Gf An = some false:=by decide +kernel
 refine ⟨?_,h1,h2⟩
 unfold FJ at n
 simp only [List.mem_cons,List.not_mem_nil,or_false] at n ⊢
 rcases n with n | n | n | n | n
 ·exact .inl n
 ·exact .inr (.inl n)
 ·exact .inr (.inr (.inl n))
 ·exact .inr (.inr (.inr n))
 ·rw [n,e0] at h1; cases h1
theorem fg_club {F : List Dk} (h : FG F) {d : Dk} (hd : d ∈ F) (hk : d.Kind = 1) : d.Club ∈ [Uf,EK,An]:=by
 obtain ⟨g,_,n⟩:=h.ok d hd
 have eA : Gf k_A = some false:=by decide +kernel
 have hAe : k_A ≠ An:=by decide +kernel
 unfold Ye at n
 simp only [List.mem_cons,List.not_mem_nil,or_false] at n ⊢
 rcases n with h1 | h1 | h1 | h1
 ·exact .inl h1
 ·exact .inr (.inl h1)
 ·exact .inr (.inr h1)
 ·rcases g.club hk with h2 | h2
  ·exact absurd (h1.symm.trans h2) hAe
  ·rw [h1,eA] at h2; cases h2
theorem AK {F : List Dk} (h : FG F) (race : ByteArray) : (JT race F).length ≤ 4:=by
 have ho:=RL race F
 have:=OK ((JT race F).map (·.1)) [Wz,BE,BF,BG] ho.nd fun x hx=>by
  obtain ⟨p,hp,rfl⟩:=List.mem_map.1 hx
  obtain ⟨e1,_,e3,e4⟩:=ho.is p hp
  rw [e1]
  exact (JC h e4 (by omega)).1
 rw [List.length_map] at this
 exact this
theorem ML {F : List Dk} (h : FG F) (p : Iw) (race : ByteArray) : Ox p F race = some (Xh race F):=PP p F race (by have:=AK h race; omega)
def D0 : Dk:=Dk.mk An 0 0 0 An An An 0 0 An 0
def CB (race : ByteArray) (F : List Dk) (d : Dk) : Bool:=(Qy (swM race F) d.Who).isSome
def svS (race : ByteArray) (F : List Dk) (d : Dk) : Dk:=Ea (swM race F) d.Who D0
def Qt (race : ByteArray) (F : List Dk) : List Dk:=(Xh race F).filter (CB race F)
def Ou (race : ByteArray) (F : List Dk) (H : List Dk) : List Gq:=H.map fun d=>Gq.mk d.Who (svS race F d).Time
def Zo (race : ByteArray) (F : List Dk) (H : List Dk) : List Ii:=(H.filter fun d=>decide (0 < (svS race F d).Fault)).map fun d=>Ii.mk d.Who (svS race F d).Fault []
def Wb (H : List Dk) (m : List (ByteArray × ByteArray)) : List (ByteArray × ByteArray):=H.foldl (fun m d=>Gl m d.Who d.Club) m
theorem CO (p : Iw) (F : List Dk) (race : ByteArray) (j : List Ii → List Gq → List (ByteArray × ByteArray) → Option (List Dq × List (ByteArray × ByteArray) × Int)) : ∀ (ys : List Dk) (i : Nat) (v : List Ii) (q : List Gq) (c : List (ByteArray × ByteArray)),v.length + ys.length ≤ 1000 → q.length + ys.length ≤ 1000 →
  Md p F race j ys i v q c = j (v ++ Zo race F (ys.filter (CB race F))) (q ++ Ou race F (ys.filter (CB race F))) (Wb (ys.filter (CB race F)) c)
 | [],i,v,q,c,_,_=>by simp [Md,Zo,Ou,Wb]
 | y :: ys,i,v,q,c,h1,h2=>by
  simp only [List.length_cons] at h1 h2
  rw [Md]
  simp only [On,SB]
  have hh : CB race F y = (Qy (swM race F) y.Who).isSome:=rfl
  have hs : Ea (swM race F) y.Who (Dk.mk An 0 0 0 An An An 0 0 An 0) = svS race F y:=rfl
  rw [hs]
  cases hc : (Qy (swM race F) y.Who).isSome with
  | false =>
   rw [if_pos (by simp),List.filter_cons_of_neg (by rw [hh,hc]; simp)]
   exact CO p F race j ys (i + 1) v q c (by omega) (by omega)
  | true =>
   rw [if_neg (by simp),Fx (by unfold Rw; exact decide_eq_true (by omega)),List.filter_cons_of_pos (by rw [hh,hc])]
   by_cases hf : 0 < (svS race F y).Fault
   ·rw [if_pos (decide_eq_true hf),Fx (by unfold Rw; exact decide_eq_true (by omega)),CO p F race j ys (i + 1) _ _ _ (by simp; omega) (by simp; omega)]
    unfold Zo Ou Wb
    rw [List.filter_cons_of_pos (by simpa using hf)]
    simp
   ·rw [if_neg (by simpa using hf),CO p F race j ys (i + 1) v _ _ (by omega) (by simp; omega)]
    unfold Zo Ou Wb
    rw [List.filter_cons_of_neg (by simpa using hf)]
    simp
theorem CP {F : List Dk} (h : FG F) {race : ByteArray} {d : Dk} (hd : d ∈ Qt race F) : d ∈ Xh race F ∧ (svS race F d ∈ F ∧ (svS race F d).Kind = 3 ∧ (svS race F d).Race = race ∧ (svS race F d).Who = d.Who) ∧ (0 ≤ (svS race F d).Time ∧ (svS race F d).Time ≤ 360000) ∧ (0 ≤ (svS race F d).Fault ∧ (svS race F d).Fault ≤ 8):=by
 obtain ⟨h1,h2⟩:=List.mem_filter.1 hd
 unfold CB at h2
 obtain ⟨y,hy⟩:=Option.isSome_iff_exists.1 h2
 have e : svS race F d = y:=by unfold svS Ea; rw [hy]; rfl
 have g:=swM_get hy
 rw [e]
 have gd:=(h.ok y g.1).1
 exact ⟨h1,g,gd.time (.inr g.2.1),gd.fault g.2.1⟩
theorem CQ (race : ByteArray) (F : List Dk) : (Qt race F).Pairwise fun a b=>cB a.Who b.Who < 0:=((entL_up race F).sublist List.filter_sublist).imp fun {a b} h=>by
 rw [IV,decide_eq_true_eq] at h
 exact h
theorem JD {F : List Dk} (h : FG F) (race : ByteArray) : (Qt race F).length ≤ 4:=by
 have h1:=List.length_filter_le (CB race F) (Xh race F)
 have h2:=AK h race
 rw [Zn] at h1
 unfold Qt
 omega
def Zp (race : ByteArray) (F : List Dk) (w : ByteArray) : Int:=Ea (Yj (Zo race F (Qt race F)) []) w 0
theorem KZ (V : List Ii) (m : List (ByteArray × Int)) (w : ByteArray) (h : ∀ v ∈ V,v.Who ≠ w) : Ea (Yj V m) w 0 = Ea m w 0:=by
 unfold Yj
 induction V generalizing m with
 | nil=>rfl
 | cons v V ih =>
  rw [List.foldl_cons,ih _ fun u hu=>h u (List.mem_cons_of_mem _ hu),Wt,if_neg fun e=>h v List.mem_cons_self e.symm]
theorem TO (V : List Ii) (m : List (ByteArray × Int)) (v : Ii) (hv : v ∈ V) (hp : (V.map (·.Who)).Nodup) : Ea (Yj V m) v.Who 0 = v.Fault:=by
 induction V generalizing m with
 | nil=>cases hv
 | cons u V ih =>
  simp only [List.map_cons,List.nodup_cons] at hp
  have e : Yj (u :: V) m = Yj V (Gl m u.Who u.Fault):=rfl
  rw [e]
  rcases List.mem_cons.1 hv with rfl | hv
  ·rw [KZ V _ v.Who fun z hz e=>hp.1 (by rw [← e]; exact List.mem_map_of_mem hz),Wt,if_pos rfl]
  ·exact ih _ hv hp.2
theorem fltS_is {F : List Dk} (h : FG F) {race : ByteArray} {d : Dk} (hd : d ∈ Qt race F) : Zp race F d.Who = (svS race F d).Fault:=by
 obtain ⟨_,_,_,f0,_⟩:=CP h hd
 have hup:=CQ race F
 have hnd : ((Zo race F (Qt race F)).map (·.Who)).Nodup:=by
  unfold Zo
  rw [List.map_map]
  exact List.pairwise_map.2 ((hup.sublist List.filter_sublist).imp fun {a b} hab e=>by
   have e' : a.Who = b.Who:=e
   rw [e',Te] at hab; omega)
 unfold Zp
 by_cases hf : 0 < (svS race F d).Fault
 ·exact TO _ [] (Ii.mk d.Who (svS race F d).Fault []) (List.mem_map.2 ⟨d,List.mem_filter.2 ⟨hd,decide_eq_true hf⟩,rfl⟩) hnd
 ·rw [KZ _ _ _ fun v hv e=>?_]
  ·have : (svS race F d).Fault = 0:=by omega
   rw [this]; rfl
  ·obtain ⟨u,hu,rfl⟩:=List.mem_map.1 hv
   obtain ⟨hu1,hu2⟩:=List.mem_filter.1 hu
   have hu2:=of_decide_eq_true hu2
   simp only at e
   have : svS race F u = svS race F d:=by unfold svS; rw [e]
   rw [this] at hu2
   exact hf hu2
def Xk (race : ByteArray) (F : List Dk) : List Dq:=Zl (Zp race F) (Ou race F (Qt race F))
theorem TP {F : List Dk} (h : FG F) (p : Iw) (race : ByteArray) : Vr p F race = some (Xk race F,Wb (Qt race F) [],0):=by
 have hlen:=JD h race
 have hel:=Zn race F
 have hef:=AK h race
 unfold Vr
 rw [ML h p race]
 simp only [Option.bind_some,On]
 rw [CO p F race _ (Xh race F) 0 [] [] [] (by simp; omega) (by simp; omega),List.nil_append,List.nil_append]
 have hQ : (Ou race F (Qt race F)).length ≤ 4:=by unfold Ou; rw [List.length_map]; exact hlen
 have hV : (Zo race F (Qt race F)).length ≤ 4:=by
  unfold Zo
  rw [List.length_map]
  exact Nat.le_trans (List.length_filter_le _ _) hlen
 have hr:=rank_is (Q:=Ou race F (Qt race F)) (V:=Zo race F (Qt race F)) (by omega) (fun s hs=>by
   unfold Ou at hs
   obtain ⟨d,hd,rfl⟩:=List.mem_map.1 hs
   obtain ⟨d1,_,d3,_⟩:=CP h hd
   obtain ⟨_,k2,k3⟩:=HW d1
   exact ⟨(JC h k3 (by omega)).2.1,d3⟩)
  (by unfold Ou; rw [List.pairwise_map]; exact CQ race F) (by omega) (fun s hs=>by
   unfold Zo at hs
   obtain ⟨d,hd,rfl⟩:=List.mem_map.1 hs
   obtain ⟨d1,_,_,d4⟩:=CP h (List.mem_filter.1 hd).1
   obtain ⟨_,k2,k3⟩:=HW d1
   exact ⟨(JC h k3 (by omega)).2.1,d4⟩)
  (by unfold Zo; rw [List.pairwise_map]; exact (CQ race F).sublist List.filter_sublist)
 show Option.bind (Wi (Ou race F (Qt race F)) (Zo race F (Qt race F))) _ = _
 rw [hr]
 rfl
end Go.Proofs.YtfcmmengcdebnaaGreatDoor
/- Results of a race,with their points. Conditions: a right plan,right deeds with few names. No program stands here but its twins. -/
namespace Go.Proofs.YtfcmmengcdebnaaGreatDoor
open Go
theorem CC {race : ByteArray} {F : List Dk} (h : FG F) {y : Dq} (hy : y ∈ Xk race F) : ∃ d ∈ Qt race F,y.Who = d.Who ∧ y.Time = (svS race F d).Time ∧ y.Fault = (svS race F d).Fault ∧ ((0 < y.Rank ∧ y.Rank ≤ 4 ∧ 0 < y.Time ∧ y.Fault = 0) ∨ (y.Rank = 0 ∧ ¬ (0 < y.Time ∧ y.Fault = 0))):=by
 have hlen:=JD h race
 have hmk : ∀ s ∈ Ou race F (Qt race F),∃ d ∈ Qt race F,s.Who = d.Who ∧ s.Time = (svS race F d).Time ∧ Zp race F s.Who = (svS race F d).Fault:=fun s hs=>by
  unfold Ou at hs
  obtain ⟨d,hd,rfl⟩:=List.mem_map.1 hs
  exact ⟨d,hd,rfl,rfl,fltS_is h hd⟩
 have hG : ((Ou race F (Qt race F)).filter (isG (Zp race F))).length ≤ 4:=by
  refine Nat.le_trans (List.length_filter_le _ _) ?_
  unfold Ou
  rw [List.length_map]; exact hlen
 unfold Xk Zl at hy
 rcases List.mem_append.1 hy with hy | hy
 ·obtain ⟨x,hx,e1,e2,e3⟩:=MK _ _ _ _ _ hy
  rw [Xt] at hx
  obtain ⟨s,hs,rfl⟩:=List.mem_map.1 hx
  obtain ⟨hs1,hs2⟩:=List.mem_filter.1 hs
  obtain ⟨d,hd,d1,d2,d3⟩:=hmk s hs1
  unfold isG at hs2
  simp only [Bool.and_eq_true,decide_eq_true_eq] at hs2
  have hup : (((Ou race F (Qt race F)).filter (isG (Zp race F))).map (mkR (Zp race F))).Pairwise fun a b=>cB a.Who b.Who < 0:=by
   rw [List.pairwise_map]
   refine List.Pairwise.sublist List.filter_sublist ?_
   unfold Ou
   rw [List.pairwise_map]
   exact CQ race F
  obtain ⟨r1,r2,_⟩:=(PR _ 0 0 0 (NS hup) (.inl rfl)).1 y hy
  rw [Yc,List.length_map] at r2
  refine ⟨d,hd,e1.trans d1,e2.trans d2,e3.trans d3,.inl ⟨by omega,by omega,?_,?_⟩⟩
  ·rw [e2]; exact hs2.2
  ·rw [e3]; exact hs2.1
 ·obtain ⟨s,hs,rfl⟩:=List.mem_map.1 hy
  obtain ⟨hs1,hs2⟩:=List.mem_filter.1 hs
  obtain ⟨d,hd,d1,d2,d3⟩:=hmk s hs1
  refine ⟨d,hd,d1,d2,d3,.inr ⟨rfl,fun hh=>?_⟩⟩
  unfold isG at hs2
  have h1 : Zp race F s.Who = 0:=hh.2
  have h2 : 0 < s.Time:=hh.1
  rw [decide_eq_true h1,decide_eq_true h2] at hs2
  cases hs2
def Rk3 (a b : Dq) : Prop:=(0 < a.Rank ∧ 0 < b.Rank ∧ Rk2 a b) ∨ (0 < a.Rank ∧ b.Rank = 0) ∨ (a.Rank = 0 ∧ b.Rank = 0 ∧ cB a.Who b.Who < 0)
theorem OL (race : ByteArray) (F : List Dk) : (Ou race F (Qt race F)).Pairwise fun a b=>cB a.Who b.Who < 0:=by
 unfold Ou
 rw [List.pairwise_map]
 exact CQ race F
theorem good_up (race : ByteArray) (F : List Dk) : (((Ou race F (Qt race F)).filter (isG (Zp race F))).map (mkR (Zp race F))).Pairwise fun a b=>cB a.Who b.Who < 0:=by
 rw [List.pairwise_map]
 exact (OL race F).sublist List.filter_sublist
theorem SC (race : ByteArray) (F : List Dk) : (Xk race F).Pairwise Rk3:=by
 obtain ⟨A,B⟩:=PR _ 0 0 0 (NS (good_up race F)) (.inl rfl)
 unfold Xk Zl
 rw [List.pairwise_append]
 refine ⟨?_,?_,fun a ha b hb=>?_⟩
 ·refine List.Pairwise.imp_of_mem (fun {a b} ha hb hab=>.inl ⟨?_,?_,hab⟩) B
  ·have:=(A a ha).1; omega
  ·have:=(A b hb).1; omega
 ·rw [List.pairwise_map]
  exact ((OL race F).sublist List.filter_sublist).imp fun {a b} hab=>.inr (.inr ⟨rfl,rfl,hab⟩)
 ·obtain ⟨s,_,rfl⟩:=List.mem_map.1 hb
  exact .inr (.inl ⟨by have:=(A a ha).1; omega,rfl⟩)
theorem GF (race : ByteArray) (F : List Dk) : ((Xk race F).map (·.Who)).Perm ((Qt race F).map (·.Who)):=by
 have e1 : (Ou race F (Qt race F)).map (·.Who) = (Qt race F).map (·.Who):=by unfold Ou; rw [List.map_map]; rfl
 unfold Xk Zl
 rw [List.map_append,RZ,← e1]
 have e2 : ∀ l : List Gq,(l.map (mkR (Zp race F))).map (·.Who) = l.map (·.Who):=fun l=>by rw [List.map_map]; rfl
 have p1 : ((Qp EA (((Ou race F (Qt race F)).filter (isG (Zp race F))).map (mkR (Zp race F)))).map (·.Who)).Perm (((Ou race F (Qt race F)).filter (isG (Zp race F))).map (·.Who)):=by
  rw [← e2]
  exact (PG _ _).map _
 rw [e2]
 refine (p1.append_right _).trans ?_
 rw [← List.map_append]
 exact (List.filter_append_perm _ _).map _
theorem MM (race : ByteArray) (F : List Dk) : ((Qt race F).map (·.Who)).Nodup:=List.pairwise_map.2 ((CQ race F).imp fun {a b} h e=>by rw [e,Te] at h; omega)
theorem rank_nd (race : ByteArray) (F : List Dk) : ((Xk race F).map (·.Who)).Nodup:=(GF race F).nodup_iff.2 (MM race F)
theorem JE {F : List Dk} (h : FG F) (race : ByteArray) : (Xk race F).length ≤ 4:=by
 have:=(GF race F).length_eq
 rw [List.length_map,List.length_map] at this
 have:=JD h race
 omega
theorem PT (H : List Dk) (m : List (ByteArray × ByteArray)) (w : ByteArray) (h : ∀ d ∈ H,d.Who ≠ w) : Ea (Wb H m) w An = Ea m w An:=by
 unfold Wb
 induction H generalizing m with
 | nil=>rfl
 | cons v H ih =>
  rw [List.foldl_cons,ih _ fun u hu=>h u (List.mem_cons_of_mem _ hu),Wt,if_neg fun e=>h v List.mem_cons_self e.symm]
theorem JF (H : List Dk) (m : List (ByteArray × ByteArray)) (d : Dk) (hd : d ∈ H) (hp : (H.map (·.Who)).Nodup) : Ea (Wb H m) d.Who An = d.Club:=by
 induction H generalizing m with
 | nil=>cases hd
 | cons u H ih =>
  simp only [List.map_cons,List.nodup_cons] at hp
  have e : Wb (u :: H) m = Wb H (Gl m u.Who u.Club):=rfl
  rw [e]
  rcases List.mem_cons.1 hd with rfl | hd
  ·rw [PT H _ d.Who fun z hz e=>hp.1 (by rw [← e]; exact List.mem_map_of_mem hz),Wt,if_pos rfl]
  ·exact ih _ hd hp.2
def scS (C : List (ByteArray × ByteArray)) (r : Dy) (y : Dq) : Dm:=Dm.mk r.Key y.Who (Ea C y.Who An) y.Rank (decide (1 < r.Legs))
theorem JG (r : Dy) (r1 : List Dq × List (ByteArray × ByteArray) × Int) (j : List Dm → Option (List Ic × Int)) : ∀ (ys : List Dq) (i : Nat) (x : List Dm),x.length + ys.length ≤ 1000 → Ln r r1 j ys i x = j (x ++ ys.map (scS r1.2.1 r))
 | [],i,x,_=>by simp [Ln]
 | y :: ys,i,x,h=>by
  simp only [List.length_cons] at h
  rw [Ln,Fx (by unfold Rw; exact decide_eq_true (by omega)),JG r r1 j ys (i + 1) _ (by simp; omega)]
  unfold scS
  simp
def Uy (r : Dy) (F : List Dk) : List Dm:=(Xk r.Key F).map (scS (Wb (Qt r.Key F) []) r)
theorem HX {F : List Dk} (h : FG F) (r : Dy) : GGd r.Key (decide (1 < r.Legs)) (Uy r F):=by
 have hnd:=rank_nd r.Key F
 have hup:=SC r.Key F
 refine ⟨by unfold Uy; rw [List.length_map]; have:=JE h r.Key; omega,fun x hx=>?_,?_,?_,?_⟩
 ·obtain ⟨y,hy,rfl⟩:=List.mem_map.1 hx
  obtain ⟨d,hd,e1,_,_,e4⟩:=CC h hy
  obtain ⟨d1,_⟩:=CP h hd
  obtain ⟨_,k2,k3⟩:=HW d1
  have hw:=(JC h k3 (by omega)).1
  have hc:=fg_club h k3 k2
  refine ⟨rfl,rfl,?_,?_,?_,?_⟩
  ·show y.Who ∈ FI
   rw [e1]
   unfold FI
   simp only [List.mem_cons,List.not_mem_nil,or_false] at hw ⊢
   rcases hw with hw | hw | hw | hw <;> simp [hw]
  ·show Ea _ y.Who An ∈ GQ
   rw [e1,JF _ [] d hd (MM r.Key F)]
   unfold GQ
   simp only [List.mem_cons,List.not_mem_nil,or_false] at hc ⊢
   rcases hc with hc | hc | hc <;> simp [hc]
  ·show 0 ≤ y.Rank
   omega
  ·show y.Rank ≤ 6
   omega
 ·unfold Uy
  rw [List.pairwise_map]
  refine List.Pairwise.imp_of_mem (fun {a b} ha hb hab=>?_) hup
  rw [BZ]
  refine .inr ⟨rfl,?_⟩
  obtain ⟨_,_,_,_,_,ea⟩:=CC h ha
  obtain ⟨_,_,_,_,_,eb⟩:=CC h hb
  show (if a.Rank = 0 then (301 : Int) else a.Rank) < (if b.Rank = 0 then (301 : Int) else b.Rank) ∨ ((if a.Rank = 0 then (301 : Int) else a.Rank) = (if b.Rank = 0 then (301 : Int) else b.Rank) ∧ cB a.Who b.Who < 0)
  rcases hab with ⟨h1,h2,h3,h4,h5,h6⟩ | ⟨h1,h2⟩ | ⟨h1,h2,h3⟩
  ·rw [if_neg (by omega),if_neg (by omega)]
   by_cases e : a.Rank = b.Rank
   ·exact .inr ⟨e,h6 (h5.1 e)⟩
   ·exact .inl (by omega)
  ·rw [if_neg (by omega),if_pos h2]
   exact .inl (by omega)
  ·rw [if_pos h1,if_pos h2]
   exact .inr ⟨rfl,h3⟩
 ·unfold Uy
  rw [List.pairwise_map]
  exact List.pairwise_map.1 hnd
 ·intro a x b e hx
  unfold Uy Xk Zl at e
  obtain ⟨l1,l2,he,ha,hxb⟩:=List.map_eq_append_iff.1 e
  obtain ⟨z,l3,hl2,hz,hb⟩:=List.map_eq_cons_iff.1 hxb
  subst hl2
  have hzr : 0 < z.Rank:=by rw [← hz] at hx; exact hx
  -- z stands among the good ones
  have hin : ∃ l4,rkF 0 0 0 (Qp EA (((Ou r.Key F (Qt r.Key F)).filter (isG (Zp r.Key F))).map (mkR (Zp r.Key F)))) = l1 ++ z :: l4:=by
   rcases List.append_eq_append_iff.1 he with ⟨c,h1,h2⟩ | ⟨c,h1,h2⟩
   ·exfalso
    have : z ∈ ((Ou r.Key F (Qt r.Key F)).filter fun s=>!isG (Zp r.Key F) s).map (mkR (Zp r.Key F)):=by rw [h2]; simp
    obtain ⟨s,_,rfl⟩:=List.mem_map.1 this
    simp [mkR] at hzr
   ·cases c with
    | nil =>
     exfalso
     rw [List.nil_append] at h2
     have : z ∈ ((Ou r.Key F (Qt r.Key F)).filter fun s=>!isG (Zp r.Key F) s).map (mkR (Zp r.Key F)):=by rw [← h2]; simp
     obtain ⟨s,_,rfl⟩:=List.mem_map.1 this
     simp [mkR] at hzr
    | cons c0 c =>
     simp only [List.cons_append,List.cons.injEq] at h2
     exact ⟨c,by rw [h1,h2.1]⟩
  obtain ⟨l4,hl4⟩:=hin
  have hal : a.length = l1.length:=by rw [← ha,List.length_map]
  have hzx : x.Rank = z.Rank:=by rw [← hz]; rfl
  rcases SA _ 0 0 0 l1 z l4 hl4 with h1 | ⟨_,_,h3⟩ | ⟨d,y,h1,h2⟩
  ·left; rw [hzx,h1,hal]; simp
  ·omega
  ·right
   refine ⟨d.map (scS (Wb (Qt r.Key F) []) r),scS (Wb (Qt r.Key F) []) r y,?_,?_⟩
   ·rw [← ha,h1,List.map_append]; rfl
   ·rw [hzx,← h2]; rfl
def MN (x y : Dm) : Bool:=decide (Nc x y < 0)
theorem TQ (l : List Dm) (hl : l.length ≤ 19) : Gz l = some (Qp MN l):=by
 have hs : Hb l 0 (l.length : Int) = some (Qp MN l):=by
  unfold Hb
  simp only [On]
  have hins : ∀ (k : List Dm → Option (List Dm)) (rp : List Dm) (x : Dm) (post : List Dm),((rp ++ x :: post).length : Int) = (l.length : Int) → (∀ y,y ∈ rp ∨ y = x ∨ y ∈ post → y ∈ (rp ++ x :: post)) →
    Ei 0 k (((rp.length : Int) - 0).toNat + 2) (rp.reverse ++ x :: post) (rp.length : Int) = k ((Ua MN x rp).reverse ++ post):=by
   intro k rp x post h1 _
   exact NN (fun x y k=>k (MN x y)) MN k (Ei 0 k) (fun _ _ _=>rfl) rp x post _ (by omega) (by simp at h1; omega) fun y _ k'=>rfl
  cases l with
  | nil=>rfl
  | cons x l =>
   have hw : W (0 + 1) = (([x] : List Dm).length : Int):=rfl
   rw [hw]
   exact FC MN (fun x=>some x) (fun k x i=>Ei 0 k ((i - 0).toNat + 2) x i) (Ez ((x :: l).length : Int) 0 fun x=>some x) ((x :: l).length : Int) (fun _ _ _=>rfl)
    (fun k rp x post h1 h2=>hins k rp x post h1 h2) l [x] _ (by simp only [List.length_cons,List.length_nil]; omega) (by simp only [List.length_cons,List.length_nil]; omega) (by simp only [List.length_cons,List.length_nil] at hl ⊢; omega)
 unfold Gz Jk
 simp only [On]
 rw [Fv,if_neg (by simp; omega),hs]
 simp only [Option.bind_some]
 rw [Fw,if_neg (by simp; omega)]
 rfl
theorem ltRs_is (x y : Dm) (hr : x.Race = y.Race) (hx : 0 ≤ x.Rank ∧ x.Rank ≤ 6) (hy : 0 ≤ y.Rank ∧ y.Rank ≤ 6) : MN x y = DC x y:=by
 unfold MN DC Nc
 apply decide_eq_decide.2
 have hk : ∀ z : Dm,kR z = if z.Rank = 0 then 301 else z.Rank:=fun _=>rfl
 rw [hk,hk]
 simp only [hr,Te,Int.lt_irrefl,true_and,false_or]
 by_cases h1 : x.Rank = 0 <;> by_cases h2 : y.Rank = 0
 ·rw [if_neg (by simp [h1,h2]),if_neg (by simp [h1,h2]),if_pos h1,if_pos h2]
  show cB x.Who y.Who < 0 ↔ _
  omega
 ·rw [if_pos (by simp [h1,h2]),Nu (by omega) (by omega),if_pos h1,if_neg h2]
  omega
 ·rw [if_pos (by simp [h1,h2]),Nu (by omega) (by omega),if_neg h1,if_pos h2]
  omega
 ·rw [if_neg (by simp [h1,h2]),if_neg h1,if_neg h2]
  by_cases h3 : x.Rank = y.Rank
  ·rw [if_neg (by simp [h3])]
   show cB x.Who y.Who < 0 ↔ _
   omega
  ·rw [if_pos (by simpa using h3),Nu (by omega) (by omega)]
   omega
theorem VK (x : Dm) : DC x x = false:=by
 rw [← Bool.not_eq_true,BZ,Te,Te]
 omega
theorem TR {race : ByteArray} {rel : Bool} {g : List Dm} (h : GGd race rel g) : Gz g = some g:=by
 rw [TQ g (by have:=h.len; omega),GP (lt:=MN) (lt':=DC) g fun x hx y hy=>ltRs_is x y ((h.row x hx).1.trans (h.row y hy).1.symm) (h.row x hx).2.2.2.2 (h.row y hy).2.2.2.2]
 congr 1
 exact NQ VK PQ g g (List.Pairwise.imp (fun {a b} (hab : DC a b = true) (_ : DC b a = false)=>hab) h.asc) h.asc fun _=>Iff.rfl
def PU (g : List Dm) : List (List Dm):=if g = [] then [] else [g]
theorem GG (g : List Dm) : (PU g).flatten = g:=by
 unfold PU
 split
 ·rename_i h; rw [h]; rfl
 ·simp
theorem OM {race : ByteArray} {rel : Bool} {g : List Dm} (hr : race ∈ [Qh,Tj,Wd]) (h : GGd race rel g) : LGd (PU g):=by
 refine ⟨fun g' hg'=>?_,?_,by rw [GG]; have:=h.len; omega⟩
 ·unfold PU at hg'
  split at hg'
  ·cases hg'
  ·rename_i hne
   rw [List.mem_singleton] at hg'
   subst hg'
   exact ⟨hne,race,rel,hr,h⟩
 ·unfold PU
  split <;> simp
def gvS (r : Ds) : Km:=Km.mk ((r.x_.Race ++ Oh) ++ r.x_.Who) r.points_
theorem VL {t : Kr} (ht : KW t) {race : ByteArray} {rel : Bool} {g : List Dm} (hr : race ∈ [Qh,Tj,Wd]) (h : GGd race rel g) : ∃ R,Pe t g = some R ∧ R.length ≤ 15 ∧ (∀ r ∈ R,Xe g r) ∧ Tw t g = some (R.map gvS,0):=by
 have hG:=OM hr h
 have hb:=both_ok ht hG
 obtain ⟨R,h1,h2,h3⟩:=rows_is t ht.toTOk (PU g) hG.one hG.ne hG.len
 rw [GG] at hb h1 h3
 refine ⟨R,h1,h2,h3,?_⟩
 have hsz : ∀ x ∈ g,x.Race.size ≤ 40 ∧ x.Who.size ≤ 40:=fun x hx=>by
  obtain ⟨e1,_,e3,_⟩:=h.row x hx
  have k1 : ∀ s ∈ [Qh,Tj,Wd],s.size ≤ 40:=by decide +kernel
  have k2 : ∀ s ∈ FI,s.size ≤ 40:=by decide +kernel
  exact ⟨by rw [e1]; exact k1 _ hr,k2 _ e3⟩
 have h20 : Oh.size = 1:=by decide +kernel
 unfold Tw
 rw [hb,Option.bind_some,if_neg (by simp),h1,Option.bind_some]
 simp only [Jc]
 have loop : ∀ (R : List Ds) (i : Nat) (x : List Km),(∀ r ∈ R,r.x_ ∈ g) → x.length + R.length ≤ 1000 → Mf (fun (x1 : List Km)=>some (x1,0)) R i x = some (x ++ R.map gvS,0):=by
  intro R
  induction R with
  | nil=>intro i x _ _; simp [Mf]
  | cons r R ih =>
   intro i x h1 h2
   simp only [List.length_cons] at h2
   obtain ⟨c1,c2⟩:=hsz r.x_ (h1 r List.mem_cons_self)
   rw [Mf,Fx (decide_eq_true (by omega)),Fx (decide_eq_true (by rw [ByteArray.size_append]; omega)),Fx (by unfold Rw; exact decide_eq_true (by omega)),ih _ _ (fun z hz=>h1 z (List.mem_cons_of_mem _ hz)) (by simp; omega)]
   simp [gvS]
 rw [loop R 0 [] (fun r hr=>(h3 r hr).1) (by simp; omega),List.nil_append]
def ofS (G : List Km) (m : List (ByteArray × Em)) : List (ByteArray × Em):=G.foldl (fun m y=>Gl m y.Key y.Points) m
theorem JH (j : List (ByteArray × Em) → Option (List Ic × Int)) : ∀ (G : List Km) (i : Nat) (m : List (ByteArray × Em)),Mk j G i m = j (ofS G m)
 | [],_,_=>rfl
 | y :: G,i,m=>by rw [Mk,JH j G (i + 1) _]; rfl
def ptS (m : List (ByteArray × Em)) (k : ByteArray) : Em:=if (Qy m k).isSome then Ea m k (Em.mk 0 0) else Em.mk 0 1
def Zq (C : List (ByteArray × ByteArray)) (m : List (ByteArray × Em)) (r : Dy) (y : Dq) : Ic:=Ic.mk y.Rank y.Who (Ea C y.Who An) y.Time y.Fault (ptS m ((r.Key ++ Oh) ++ y.Who))
theorem JI (r : Dy) (r1 : List Dq × List (ByteArray × ByteArray) × Int) (m : List (ByteArray × Em)) (j : List Ic → Option (List Ic × Int)) (hk : r.Key.size ≤ 40) : ∀ (ys : List Dq) (i : Nat) (x : List Ic),(∀ y ∈ ys,y.Who.size ≤ 40) → x.length + ys.length ≤ 1000 → Lo r r1 m j ys i x = j (x ++ ys.map (Zq r1.2.1 m r))
 | [],i,x,_,_=>by simp [Lo]
 | y :: ys,i,x,hw,h=>by
  simp only [List.length_cons] at h
  have h20 : Oh.size = 1:=by decide +kernel
  have hy:=hw y List.mem_cons_self
  rw [Lo,Fx (decide_eq_true (by omega)),Fx (decide_eq_true (by rw [ByteArray.size_append]; omega))]
  simp only [On]
  have hroom : Rw x.length = true:=by unfold Rw; exact decide_eq_true (by omega)
  have hfin:=JI r r1 m j hk ys (i + 1) (x ++ [Zq r1.2.1 m r y]) (fun z hz=>hw z (List.mem_cons_of_mem _ hz)) (by simp; omega)
  have hl : Zq r1.2.1 m r y = Ic.mk y.Rank y.Who (Ea r1.2.1 y.Who An) y.Time y.Fault (ptS m ((r.Key ++ Oh) ++ y.Who)):=rfl
  have hp : ptS m ((r.Key ++ Oh) ++ y.Who) = if (Qy m ((r.Key ++ Oh) ++ y.Who)).isSome then Ea m ((r.Key ++ Oh) ++ y.Who) (Em.mk 0 0) else Em.mk 0 1:=rfl
  cases hc : (Qy m ((r.Key ++ Oh) ++ y.Who)).isSome with
  | true =>
   rw [hc,if_pos rfl] at hp
   rw [if_neg (by simp),Fx hroom]
   rw [hl,hp] at hfin
   rw [hfin,List.map_cons,hl,hp]
   simp
  | false =>
   rw [hc,if_neg (by simp)] at hp
   rw [if_pos (by simp),Fx hroom]
   rw [hl,hp] at hfin
   rw [hfin,List.map_cons,hl,hp]
   simp
theorem PV {p : Iw} (hp : Wf p) {F : List Dk} (h : FG F) {r : Dy} (hr : r ∈ p.Races) : ∃ R,Pe p.Table (Uy r F) = some R ∧ R.length ≤ 15 ∧ (∀ x ∈ R,Xe (Uy r F) x) ∧ Tw p.Table (Uy r F) = some (R.map gvS,0) ∧
  Pw p F r = some ((Xk r.Key F).map (Zq (Wb (Qt r.Key F) []) (ofS (R.map gvS) []) r),0):=by
 have hkey:=(hp.races r hr).2
 have hg:=HX h r
 obtain ⟨R,h1,h2,h3,h4⟩:=VL hp.table hkey hg
 refine ⟨R,h1,h2,h3,h4,?_⟩
 have hlen:=JE h r.Key
 have k1 : ∀ s ∈ [Qh,Tj,Wd],s.size ≤ 40:=by decide +kernel
 have k2 : ∀ s ∈ [Wz,BE,BF,BG],s.size ≤ 40:=by decide +kernel
 have hw : ∀ y ∈ Xk r.Key F,y.Who.size ≤ 40:=fun y hy=>by
  obtain ⟨d,hd,e1,_⟩:=CC h hy
  obtain ⟨_,k3,k4⟩:=HW (CP h hd).1
  rw [e1]
  exact k2 _ (JC h k4 (by omega)).1
 unfold Pw
 rw [TP h p r.Key]
 simp only [Option.bind_some,decide_true,Bool.not_true,Bool.false_eq_true,if_false,On]
 rw [JG r _ _ (Xk r.Key F) 0 [] (by simp; omega),List.nil_append]
 have hs:=TR hg
 show Option.bind (Gz (Uy r F)) _ = _
 rw [hs]
 simp only [Option.bind_some]
 rw [h4]
 simp only [Option.bind_some,decide_true,Bool.not_true,Bool.false_eq_true,if_false]
 rw [JH,JI r _ _ _ (k1 _ hkey) (Xk r.Key F) 0 [] hw (by simp; omega),List.nil_append]
end Go.Proofs.YtfcmmengcdebnaaGreatDoor
/- A right meet that is asked. Conditions: a right plan,right deeds with few names. No program stands here but its twins. -/
namespace Go.Proofs.YtfcmmengcdebnaaGreatDoor
open Go
structure LG (l : List Dk) : Prop where
 ok : DsG l
 names : ∀ d ∈ l,d.Who ∈ FJ ∧ d.Club ∈ Ye
 len : l.length ≤ 40
theorem LG.facts {l : List Dk} (h : LG l) (at_ : Int) : FG (Mm l at_) :=
 ⟨fun d hd=>⟨h.ok.each d ((EB l at_).subset hd),h.names d ((EB l at_).subset hd)⟩,Nat.le_trans (EB l at_).length_le h.len⟩
theorem VM (j : Option (Option Kg × Int)) : ∀ (ats : List Int) (i : Nat),(∀ a ∈ ats,Hz a = true) → Ow j ats i = j
 | [],_,_=>rfl
 | a :: ats,i,h=>by
  rw [Ow,h a List.mem_cons_self,if_neg (by simp)]
  exact VM j ats (i + 1) fun b hb=>h b (List.mem_cons_of_mem _ hb)
theorem SD {p : Iw} (hp : Wf p) {l : List Dk} (h : LG l) (ats : List Int) (a : Int) (hm : ∀ b ∈ ats ++ [a],Hz b = true) (hl : ats.length ≤ 1000) : Xs p l (ats ++ [a]) = some (some (Kg.mk p (Mm l a)),0):=by
 have hlen:=h.len
 have hn : nth (ats ++ [a]) (W ((((ats ++ [a]).length : Nat) : Int) - 1)) = a:=by
  rw [List.length_append,List.length_singleton,Nu (by omega) (by omega)]
  exact Wu ats a [] (by omega)
 have hi : inB (W ((((ats ++ [a]).length : Nat) : Int) - 1)) (ats ++ [a]).length = true:=by
  rw [List.length_append,List.length_singleton,Nu (by omega) (by omega)]
  exact Jf.2 (by omega)
 unfold Xs
 rw [MJ hp]
 simp only [Option.bind_some,decide_true,Bool.not_true,Bool.false_eq_true,if_false]
 rw [h.ok.chk]
 simp only [Option.bind_some,decide_true,Bool.not_true,Bool.false_eq_true,if_false,On]
 rw [VM _ _ 0 hm,Fx hi,hn,PO p l a (by omega)]
 rfl
theorem VN (key : ByteArray) : ∀ (l : List Dy) (i : Nat),(l.map (·.Key)).Nodup → ∀ r ∈ l,r.Key = key → ∃ k : Nat,Gg key (-1) l i = ((i + k : Nat) : Int) ∧ l[k]? = some r
 | [],_,_,r,h,_=>by cases h
 | x :: l,i,hn,r,h,hk=>by
  rw [Gg]
  unfold Wq
  simp only [List.map_cons,List.nodup_cons] at hn
  by_cases hx : x.Key = key
  ·rw [if_pos (decide_eq_true hx)]
   rcases List.mem_cons.1 h with rfl | h
   ·exact ⟨0,by simp,rfl⟩
   ·exact absurd (List.mem_map_of_mem (f:=(·.Key)) h) (by rw [hk,← hx]; exact hn.1)
  ·rw [if_neg (by simpa using hx)]
   rcases List.mem_cons.1 h with rfl | h
   ·exact absurd hk hx
   ·obtain ⟨k,e1,e2⟩:=VN key l (i + 1) hn.2 r h hk
    exact ⟨k + 1,by rw [e1]; congr 1; omega,by simpa using e2⟩
theorem JJ {p : Iw} (hp : Wf p) {F : List Dk} (h : FG F) {r : Dy} (hr : r ∈ p.Races) : Wh p F r.Key = some (r,0):=by
 obtain ⟨k,e1,e2⟩:=VN r.Key p.Races 0 hp.keys r hr rfl
 have hidx : Gh p.Races r.Key = (k : Int):=by
  unfold Gh
  rw [On,e1]
  simp
 have hk : k < p.Races.length:=by
  rcases Nat.lt_or_ge k p.Races.length with h | h
  ·exact h
  ·rw [List.getElem?_eq_none h] at e2; cases e2
 have hf:=AK h r.Key
 have hnth : nth p.Races (k : Int) = r:=by unfold nth; simp [List.getD,e2]
 unfold Wh
 rw [hidx,if_neg (by simp),ML h]
 simp only [Option.bind_some]
 rw [if_neg (by rw [Zn]; simp; omega),Fx (Jf.2 (by omega)),hnth]
theorem all_l {p : Iw} (hp : Wf p) {F : List Dk} (h : FG F) (j : Option Int) : ∀ (ys : List Dy) (i : Nat),(∀ r ∈ ys,r ∈ p.Races) → Oy p F j ys i = j
 | [],_,_=>rfl
 | r :: ys,i,hy=>by
  rw [Oy,JJ hp h (hy r List.mem_cons_self)]
  simp only [Option.bind_some,decide_true,Bool.not_true,Bool.false_eq_true,if_false]
  exact all_l hp h j ys (i + 1) fun z hz=>hy z (List.mem_cons_of_mem _ hz)
theorem all_ok {p : Iw} (hp : Wf p) {F : List Dk} (h : FG F) : Zb p F = some 0:=by
 unfold Zb
 rw [On]
 exact all_l hp h _ p.Races 0 fun _ hr=>hr
theorem VO {p : Iw} (hp : Wf p) {l : List Dk} (h : LG l) {r : Dy} (hr : r ∈ p.Races) (a : Int) (hm : Hz a = true) : Zc p l r.Key a = some (some (Kg.mk p (Mm l a)),r,0):=by
 have ho:=SD hp h [] a (by simpa using hm) (by simp)
 rw [List.nil_append] at ho
 unfold Zc
 rw [ho]
 simp only [Option.bind_some,decide_true,Bool.not_true,Bool.false_eq_true,if_false]
 rw [JJ hp (h.facts a) hr]
 rfl
theorem PW {p : Iw} (hp : Wf p) {l : List Dk} (h : LG l) {r : Dy} (hr : r ∈ p.Races) (a : Int) (hm : Hz a = true) : Vs p l r.Key a = Pw p (Mm l a) r:=by
 unfold Vs
 rw [VO hp h hr a hm]
 simp only [Option.bind_some,decide_true,Bool.not_true,Bool.false_eq_true,if_false]
 cases Pw p (Mm l a) r <;> rfl
theorem LG.of {x : List Dk} (h : DsG x) (hn : ∀ d ∈ x,KX d) (hl : x.length ≤ 40) : LG x:=⟨h,fun d hd=>⟨(hn d hd).who,(hn d hd).club⟩,hl⟩
end Go.Proofs.YtfcmmengcdebnaaGreatDoor
/- The points of the clubs of a meet. Conditions: a right plan,right deeds with few names. No program stands here but its twins. -/
namespace Go.Proofs.YtfcmmengcdebnaaGreatDoor
open Go
def Yg (p : Iw) (F : List Dk) (r : Dy) : List Ds:=(Pe p.Table (Uy r F)).getD []
def Wc (p : Iw) (F : List Dk) (r : Dy) : List Ic:=(Xk r.Key F).map (Zq (Wb (Qt r.Key F) []) (ofS ((Yg p F r).map gvS) []) r)
theorem FK {p : Iw} (hp : Wf p) {F : List Dk} (h : FG F) {r : Dy} (hr : r ∈ p.Races) : Pw p F r = some (Wc p F r,0) ∧ Pe p.Table (Uy r F) = some (Yg p F r) ∧ ∀ x ∈ Yg p F r,Xe (Uy r F) x:=by
 obtain ⟨R,h1,_,h3,_,h5⟩:=PV hp h hr
 have e : Yg p F r = R:=by unfold Yg; rw [h1]; rfl
 unfold Wc
 rw [e]
 exact ⟨h5,h1,h3⟩
theorem ofS_get (G : List Km) (k : ByteArray) : ∀ (m : List (ByteArray × Em)) (f : Em),Qy (ofS G m) k = some f → Qy m k = some f ∨ ∃ y ∈ G,y.Key = k ∧ y.Points = f:=by
 unfold ofS
 induction G with
 | nil=>intro m f h; exact .inl h
 | cons g G ih =>
  intro m f h
  rw [List.foldl_cons] at h
  rcases ih _ f h with h | ⟨y,hy,e⟩
  ·have e : Qy (Gl m g.Key g.Points) k = if k = g.Key then some g.Points else Qy m k:=BW g.Key k g.Points m 0
   rw [e] at h
   split at h
   ·rename_i hk
    exact .inr ⟨g,List.mem_cons_self,hk.symm,Option.some.inj h⟩
   ·exact .inl h
  ·exact .inr ⟨y,List.mem_cons_of_mem _ hy,e⟩
theorem SE : Em.mk 0 1 = fr 0:=by decide +kernel
theorem ptS_fr {L : List Dm} {R : List Ds} (hR : ∀ x ∈ R,Xe L x) (k : ByteArray) : ∃ v,v ≤ 6000 ∧ ptS (ofS (R.map gvS) []) k = fr v:=by
 unfold ptS
 cases hc : Qy (ofS (R.map gvS) []) k with
 | none=>exact ⟨0,by omega,by rw [if_neg (by simp),SE]⟩
 | some f =>
  rw [if_pos (by rfl)]
  rcases ofS_get _ _ _ _ hc with h | ⟨y,hy,_,e2⟩
  ·simp [Qy,Oc] at h
  ·obtain ⟨x,hx,rfl⟩:=List.mem_map.1 hy
   obtain ⟨_,_,v,hv,e⟩:=hR x hx
   refine ⟨v,hv,?_⟩
   unfold Ea
   rw [hc,← e2]
   exact e
theorem line_ok {p : Iw} (hp : Wf p) {F : List Dk} (h : FG F) {r : Dy} (hr : r ∈ p.Races) {y : Ic} (hy : y ∈ Wc p F r) : ∃ d ∈ Qt r.Key F,y.Who = d.Who ∧ y.Club = d.Club ∧ y.Time = (svS r.Key F d).Time ∧ y.Fault = (svS r.Key F d).Fault ∧ ((0 < y.Rank ∧ y.Rank ≤ 4 ∧ 0 < y.Time ∧ y.Fault = 0) ∨ (y.Rank = 0 ∧ ¬ (0 < y.Time ∧ y.Fault = 0))) ∧ ∃ v,v ≤ 6000 ∧ y.Points = fr v:=by
 obtain ⟨z,hz,e⟩:=List.mem_map.1 hy
 obtain ⟨d,hd,e1,e2,e3,e4⟩:=CC h hz
 obtain ⟨_,_,hR⟩:=FK hp h hr
 obtain ⟨v,hv,e5⟩:=ptS_fr hR ((r.Key ++ Oh) ++ z.Who)
 have hc : Ea (Wb (Qt r.Key F) []) z.Who An = d.Club:=by rw [e1,JF _ [] d hd (MM r.Key F)]
 have f0 : y.Who = z.Who:=by rw [← e,Zq]
 have f1 : y.Club = d.Club:=by rw [← e,Zq,hc]
 have f2 : y.Time = z.Time:=by rw [← e,Zq]
 have f3 : y.Fault = z.Fault:=by rw [← e,Zq]
 have f4 : y.Rank = z.Rank:=by rw [← e,Zq]
 have f5 : y.Points = fr v:=by rw [← e,Zq,e5]
 refine ⟨d,hd,f0.trans e1,f1,f2.trans e2,f3.trans e3,?_,v,hv,f5⟩
 rw [f4,f2,f3]
 exact e4
structure MF (m : List (ByteArray × Em)) (K : ByteArray → Prop) (u : ByteArray → Nat) : Prop where
 nd : (m.map (·.1)).Nodup
 keys : ∀ k,k ∈ m.map (·.1) ↔ K k
 vals : ∀ k,K k → Ea m k (Em.mk 0 0) = fr (u k)
theorem MF.put {m : List (ByteArray × Em)} {K : ByteArray → Prop} {u : ByteArray → Nat} (h : MF m K u) (k : ByteArray) (v : Nat) : MF (Gl m k (fr v)) (fun z=>z = k ∨ K z) (fun z=>if z = k then v else u z):=by
 obtain ⟨a,b⟩:=MH k (fr v) m h.nd
 refine ⟨a,fun z=>by rw [b z,h.keys z],fun z hz=>?_⟩
 rw [Wt]
 by_cases e : z = k
 ·rw [if_pos e,if_pos e]
 ·rw [if_neg e,if_neg e]
  rcases hz with hz | hz
  ·exact (e hz).elim
  ·exact h.vals z hz
theorem MF.congr {m : List (ByteArray × Em)} {K K' : ByteArray → Prop} {u u' : ByteArray → Nat} (h : MF m K u) (hk : ∀ k,K k ↔ K' k) (hu : ∀ k,K' k → u k = u' k) : MF m K' u' :=
 ⟨h.nd,fun k=>(h.keys k).trans (hk k),fun k hk'=>by rw [h.vals k ((hk k).2 hk'),hu k hk']⟩
theorem TS (p : Iw) {F : List Dk} (h : FG F) (r : Dy) : (Wc p F r).length ≤ 4:=by
 unfold Wc
 rw [List.length_map]
 exact JE h r.Key
end Go.Proofs.YtfcmmengcdebnaaGreatDoor
/- The rows of points: whose they are. No program stands here but its twins. -/
namespace Go.Proofs.YtfcmmengcdebnaaGreatDoor
open Go
theorem Wn {R : Type} {c : Bool} {k : Option R} {r : R} (h : Chk c k = some r) : c = true ∧ k = some r:=by
 unfold Chk at h
 split at h
 ·rename_i hc; exact ⟨hc,h⟩
 ·cases h
theorem SF {α R : Type} {o : Option α} {k : α → Option R} {r : R} (h : Option.bind o k = some r) : ∃ a,o = some a ∧ k a = some r:=Option.bind_eq_some_iff.1 h
def CD (y : Dm) : Bool:=!(decide (y.Rank = 0) || decide (y.Club = An))
theorem JK (t : Kr) (j : List (ByteArray × Int) → List Int → List Ds → Option (List Ds)) (R : List Ds) : ∀ (ys : List Dm) (i : Nat) (x1 : List (ByteArray × Int)) (x2 : List Int) (x3 : List Ds),Ku t j ys i x1 x2 x3 = some R →
  ∃ mp sw out,j mp sw out = some R ∧ out.map (·.x_) = x3.map (·.x_) ++ ys.filter CD
 | [],i,x1,x2,x3,h=>⟨x1,x2,x3,h,by simp⟩
 | y :: ys,i,x1,x2,x3,h=>by
  rw [Ku] at h
  simp only [Jc] at h
  by_cases hc : (decide (y.Rank = 0) || decide (y.Club = An)) = true
  ·rw [if_pos hc] at h
   obtain ⟨mp,sw,out,e,g⟩:=JK t j R ys (i + 1) x1 x2 x3 h
   exact ⟨mp,sw,out,e,by rw [g,List.filter_cons_of_neg (by unfold CD; rw [hc]; simp)]⟩
  ·rw [if_neg hc] at h
   have hg : CD y = true:=by unfold CD; rw [Bool.not_eq_true] at hc; rw [hc]; rfl
   have go : ∀ x7,Ku t j ys (i + 1) (Gl x1 y.Club (W ((Ea x1 y.Club 0) + 1))) x7 (x3 ++ [(Ds.mk y Kt)]) = some R → ∃ mp sw out,j mp sw out = some R ∧ out.map (·.x_) = x3.map (·.x_) ++ (y :: ys).filter CD:=fun x7 h=>by
    obtain ⟨mp,sw,out,e,g⟩:=JK t j R ys (i + 1) _ x7 _ h
    exact ⟨mp,sw,out,e,by rw [g,List.filter_cons_of_pos hg]; simp⟩
   split at h
   ·exact go _ (Wn (Wn h).2).2
   ·exact go _ (Wn h).2
theorem JL (t : Kr) (x2 : List Int) (x8 : List Ds) (x9 : Int) (j : Int → Int → Option (List Ds)) (R : List Ds) : ∀ (m : Nat) (a b : Int),Jt t x2 x8 x9 j m a b = some R → ∃ c d,j c d = some R
 | 0,_,_,h=>by rw [Jt] at h; cases h
 | m + 1,a,b,h=>by
  rw [Jt] at h
  simp only [Jc] at h
  have fin : ∀ c : Bool,(if c = true then (if decide (a < (t.Points.length : Int)) = true then Chk (inB a t.Points.length) (Jt t x2 x8 x9 j m (W (a + 1)) (W (b + nth t.Points a))) else Jt t x2 x8 x9 j m (W (a + 1)) b) else j a b) = some R → ∃ c d,j c d = some R:=fun c h=>by
   split at h
   ·split at h
    ·exact JL t x2 x8 x9 j R m _ _ (Wn h).2
    ·exact JL t x2 x8 x9 j R m _ _ h
   ·exact ⟨a,b,h⟩
  split at h
  ·exact fin _ (Wn (Wn (Wn (Wn h).2).2).2).2
  ·exact fin _ h
theorem setX (l : List Ds) (z : Int) (f : Em) (h : inB z l.length = true) : (l.set z.toNat (Ds.mk ((nth l z).x_) f)).map (·.x_) = l.map (·.x_):=by
 rw [List.map_set]
 obtain ⟨h1,h2⟩:=Jf.1 h
 have hz : z.toNat < l.length:=by omega
 have e : (nth l z).x_ = (l.map (·.x_))[z.toNat]'(by rw [List.length_map]; exact hz):=by
  unfold nth
  rw [List.getElem_map,List.getD,List.getElem?_eq_getElem hz]
  rfl
 show (l.map (·.x_)).set z.toNat ((nth l z).x_) = _
 rw [e,List.set_getElem_self]
theorem ON (a b c : Int) (x2 : List Int) (j : List Ds → Option (List Ds)) (R : List Ds) : ∀ (m : Nat) (x : List Ds) (q : Int),Ju a b c x2 j m x q = some R → ∃ out,j out = some R ∧ out.map (·.x_) = x.map (·.x_)
 | 0,_,_,h=>by rw [Ju] at h; cases h
 | m + 1,x,q,h=>by
  rw [Ju] at h
  split at h
  ·obtain ⟨f,_,h⟩:=SF (Wn h).2
   obtain ⟨hb,h⟩:=Wn h
   obtain ⟨out,e,g⟩:=ON a b c x2 j R m _ _ h
   exact ⟨out,e,by rw [g,setX _ _ _ hb]⟩
  ·exact ⟨x,h,rfl⟩
theorem OO (x2 : List Int) (l : List Dm) (t : Kr) (j : List Ds → Option (List Ds)) (R : List Ds) : ∀ (m : Nat) (x : List Ds) (q : Int),Ix x2 l t j m x q = some R → ∃ out,j out = some R ∧ out.map (·.x_) = x.map (·.x_)
 | 0,_,_,h=>by rw [Ix] at h; cases h
 | m + 1,x,q,h=>by
  rw [Ix] at h
  simp only [Jc] at h
  split at h
  ·obtain ⟨c,d,h⟩:=JL _ _ _ _ _ _ _ _ _ h
   have h:=(Wn h).2
   split at h
   all_goals
    obtain ⟨o,h,g⟩:=ON _ _ _ _ _ _ _ _ _ (Wn h).2
    obtain ⟨o2,h,g2⟩:=OO x2 l t j R m _ _ h
    exact ⟨o2,h,g2.trans g⟩
  ·exact ⟨x,h,rfl⟩
theorem raceX (t : Kr) (g : List Dm) (R : List Ds) (h : Tm t g = some R) : R.map (·.x_) = g.filter CD:=by
 unfold Tm at h
 simp only [Jc] at h
 obtain ⟨mp,sw,out,h,e⟩:=JK _ _ _ _ _ _ _ _ h
 obtain ⟨o,h,e2⟩:=OO _ _ _ _ _ _ _ _ h
 rw [← Option.some.inj h,e2,e]
 rfl
theorem SG (t : Kr) (j : List Ds → Option (List Ds)) (R : List Ds) : ∀ (Gs : List (List Dm)) (i : Nat) (x : List Ds),Me t j Gs i x = some R → ∃ out,j out = some R ∧ out.map (·.x_) = x.map (·.x_) ++ Gs.flatten.filter CD
 | [],i,x,h=>⟨x,h,by simp⟩
 | g :: Gs,i,x,h=>by
  rw [Me] at h
  obtain ⟨r,h1,h⟩:=SF h
  obtain ⟨out,h2,e⟩:=SG t j R Gs (i + 1) _ (Wn h).2
  exact ⟨out,h2,by rw [e,List.map_append,raceX t g r h1,List.flatten_cons,List.filter_append,List.append_assoc]⟩
theorem rowsX (t : Kr) (Gs : List (List Dm)) (h1 : ∀ g ∈ Gs,One g ∧ g.length ≤ 5) (h2 : Gs.Pairwise (fun g g'=>∀ x ∈ g,∀ y ∈ g',x.Race ≠ y.Race)) (hl : Gs.flatten.length ≤ 15) {R : List Ds} (h : Pe t Gs.flatten = some R) : R.map (·.x_) = Gs.flatten.filter CD:=by
 unfold Pe at h
 rw [IY Gs (fun g hg=>(h1 g hg).1) h2 (by omega)] at h
 simp only [Option.bind_some,Jc] at h
 obtain ⟨out,h,e⟩:=SG t _ R Gs 0 [] h
 rw [← Option.some.inj h,e]
 rfl
end Go.Proofs.YtfcmmengcdebnaaGreatDoor
/- Lines of results: their points,and who is missing. Conditions: a right plan,right deeds with few names. No program stands here but its twins. -/
namespace Go.Proofs.YtfcmmengcdebnaaGreatDoor
open Go
theorem VP {a b c : ByteArray} (h : a ++ b = a ++ c) : b = c:=by
 have h1:=congrArg (fun x=>x.data.toList) h
 simp only [ByteArray.data_append,Array.toList_append] at h1
 have h2:=List.append_cancel_left h1
 obtain ⟨⟨b⟩⟩:=b
 obtain ⟨⟨c⟩⟩:=c
 simp only at h2
 rw [h2]
theorem VQ (G : List Km) (k : ByteArray) : ∀ (m : List (ByteArray × Em)),(∀ y ∈ G,y.Key ≠ k) → Qy (ofS G m) k = Qy m k:=by
 unfold ofS
 induction G with
 | nil=>intro m _; rfl
 | cons g G ih =>
  intro m h
  rw [List.foldl_cons,ih _ fun y hy=>h y (List.mem_cons_of_mem _ hy)]
  have e : Qy (Gl m g.Key g.Points) k = if k = g.Key then some g.Points else Qy m k:=BW g.Key k g.Points m 0
  rw [e,if_neg fun e=>h g List.mem_cons_self e.symm]
theorem rows_of {p : Iw} (hp : Wf p) {F : List Dk} (h : FG F) {r : Dy} (hr : r ∈ p.Races) : (Yg p F r).map (·.x_) = (Uy r F).filter CD:=by
 obtain ⟨_,h1,_⟩:=FK hp h hr
 have hG:=OM (hp.races r hr).2 (HX h r)
 have e:=GG (Uy r F)
 rw [← e] at h1
 have:=rowsX p.Table (PU (Uy r F)) hG.one hG.ne hG.len (R:=Yg p F r) h1
 rw [this,e]
theorem gv_key {F : List Dk} (h : FG F) {r : Dy} {x : Ds} (hx : x.x_ ∈ Uy r F) : (gvS x).Key = (r.Key ++ Oh) ++ x.x_.Who:=by
 have:=((HX h r).row x.x_ hx).1
 unfold gvS
 simp only
 rw [this]
theorem VR {F : List Dk} (h : FG F) (r : Dy) : ((Uy r F).map (·.Who)).Nodup:=List.pairwise_map.2 (HX h r).who
theorem VS {p : Iw} (hp : Wf p) {F : List Dk} (h : FG F) {r : Dy} (hr : r ∈ p.Races) {w : ByteArray} (hw : ∀ x ∈ Yg p F r,x.x_.Who ≠ w) : ptS (ofS ((Yg p F r).map gvS) []) ((r.Key ++ Oh) ++ w) = fr 0:=by
 obtain ⟨_,_,hR⟩:=FK hp h hr
 have : Qy (ofS ((Yg p F r).map gvS) []) ((r.Key ++ Oh) ++ w) = none:=by
  rw [VQ]
  ·rfl
  ·intro y hy e
   obtain ⟨x,hx,rfl⟩:=List.mem_map.1 hy
   rw [gv_key h (hR x hx).1] at e
   exact hw x hx (VP e)
 unfold ptS
 rw [this,if_neg (by simp),SE]
theorem TT {p : Iw} (hp : Wf p) {F : List Dk} (h : FG F) {r : Dy} (hr : r ∈ p.Races) {y : Ic} (hy : y ∈ Wc p F r) (h0 : y.Rank = 0) : y.Points = fr 0:=by
 obtain ⟨z,hz,e⟩:=List.mem_map.1 hy
 have hz0 : z.Rank = 0:=by rw [← e,Zq] at h0; exact h0
 have hp0 : y.Points = ptS (ofS ((Yg p F r).map gvS) []) ((r.Key ++ Oh) ++ z.Who):=by rw [← e,Zq]
 rw [hp0]
 refine VS hp h hr fun x hx e=>?_
 have hx1 : x.x_ ∈ (Uy r F).filter CD:=by rw [← rows_of hp h hr]; exact List.mem_map_of_mem hx
 obtain ⟨hx2,hx3⟩:=List.mem_filter.1 hx1
 have hz2 : scS (Wb (Qt r.Key F) []) r z ∈ Uy r F:=by unfold Uy; exact List.mem_map_of_mem hz
 have hw : (scS (Wb (Qt r.Key F) []) r z).Who = x.x_.Who:=e.symm
 have hxz : x.x_ = scS (Wb (Qt r.Key F) []) r z:=by
  have hnd:=VR h r
  obtain ⟨d1,d2,e1⟩:=List.append_of_mem hx2
  rw [e1] at hz2 hnd
  rw [List.map_append,List.map_cons,List.nodup_append] at hnd
  rcases List.mem_append.1 hz2 with hm | hm
  ·exact absurd hw (hnd.2.2 _ (List.mem_map_of_mem hm) _ (by simp))
  ·rcases List.mem_cons.1 hm with hm | hm
   ·exact hm.symm
   ·exact absurd (hw ▸ List.mem_map_of_mem (f:=(·.Who)) hm) (List.nodup_cons.1 hnd.2.1).1
 rw [hxz] at hx3
 unfold CD scS at hx3
 rw [decide_eq_true (show z.Rank = 0 from hz0)] at hx3
 cases hx3
theorem OP (j : List Gq → Option (List Gq)) : ∀ (ys : List Dk) (i : Nat) (x : List Gq),x.length + ys.length ≤ 1000 → My j ys i x = j (x ++ ys.map fun d=>Gq.mk d.Who d.Time)
 | [],i,x,_=>by simp [My]
 | y :: ys,i,x,h=>by
  simp only [List.length_cons] at h
  rw [My,Fx (by unfold Rw; exact decide_eq_true (by omega)),OP j ys (i + 1) _ (by simp; omega)]
  simp
theorem PX {p : Iw} (hp : Wf p) {l : List Dk} (h : LG l) {r : Dy} (hr : r ∈ p.Races) (a : Int) (hm : Hz a = true) : Vp p l r.Key a = some ((Xh r.Key (Mm l a)).map fun d=>Gq.mk d.Who d.Time,0):=by
 have hf:=AK (h.facts a) r.Key
 have hl:=Zn r.Key (Mm l a)
 unfold Vp
 rw [VO hp h hr a hm]
 simp only [Option.bind_some,decide_true,Bool.not_true,Bool.false_eq_true,if_false]
 unfold Yp
 rw [ML (h.facts a)]
 simp only [Option.bind_some,On]
 rw [OP _ _ 0 [] (by simp; omega),List.nil_append]
 rfl
theorem ED (p : Iw) (F : List Dk) (r : Dy) (j : List Kj → Option (List Kj × Int)) : ∀ (ys : List Dk) (i : Nat) (x : List Kj),x.length + ys.length ≤ 1000 → Ll p F r j ys i x = j (x ++ (ys.filter fun d=>!CB r.Key F d).map fun d=>Kj.mk r.Key d.Who)
 | [],i,x,_=>by simp [Ll]
 | y :: ys,i,x,h=>by
  simp only [List.length_cons] at h
  rw [Ll]
  simp only [On,SB]
  have hh : CB r.Key F y = (Qy (swM r.Key F) y.Who).isSome:=rfl
  cases hc : (Qy (swM r.Key F) y.Who).isSome with
  | true =>
   rw [if_neg (by simp),ED p F r j ys (i + 1) x (by omega),List.filter_cons_of_neg (by rw [hh,hc]; simp)]
  | false =>
   rw [if_pos (by simp),Fx (by unfold Rw; exact decide_eq_true (by omega)),ED p F r j ys (i + 1) _ (by simp; omega),List.filter_cons_of_pos (by rw [hh,hc]; rfl)]
   simp
def AO (F : List Dk) (ys : List Dy) : List Kj:=(ys.map fun r=>((Xh r.Key F).filter fun d=>!CB r.Key F d).map fun d=>Kj.mk r.Key d.Who).flatten
theorem JM (p : Iw) {F : List Dk} (h : FG F) (j : List Kj → Option (List Kj × Int)) : ∀ (ys : List Dy) (i : Nat) (x : List Kj),x.length + 4 * ys.length ≤ 1000 → Lm p F j ys i x = j (x ++ AO F ys)
 | [],i,x,_=>by simp [Lm,AO]
 | y :: ys,i,x,hl=>by
  simp only [List.length_cons] at hl
  have hf:=AK h y.Key
  have he:=Zn y.Key F
  have hq:=List.length_filter_le (fun d=>!CB y.Key F d) (Xh y.Key F)
  rw [Lm,ML h]
  simp only [Option.bind_some,On]
  rw [ED p F y _ (Xh y.Key F) 0 x (by omega),JM p h j ys (i + 1) _ (by simp; omega)]
  unfold AO
  simp
theorem PY {p : Iw} (hp : Wf p) {l : List Dk} (h : LG l) (a : Int) (hm : Hz a = true) : Vo p l a = some (AO (Mm l a) p.Races,0):=by
 have ho:=SD hp h [] a (by simpa using hm) (by simp)
 rw [List.nil_append] at ho
 have:=hp.few
 unfold Vo
 rw [ho]
 simp only [Option.bind_some,decide_true,Bool.not_true,Bool.false_eq_true,if_false]
 unfold Wr
 rw [all_ok hp (h.facts a)]
 simp only [Option.bind_some,decide_true,Bool.not_true,Bool.false_eq_true,if_false,On]
 rw [JM p (h.facts a) _ p.Races 0 [] (by simp; omega),List.nil_append]
 rfl
theorem VT (F : List Dk) (r : Dy) : ((Xh r.Key F).length : Int) - ((Qt r.Key F).length : Int) = (((Xh r.Key F).filter fun d=>!CB r.Key F d).length : Int):=by
 have:=(List.filter_append_perm (CB r.Key F) (Xh r.Key F)).length_eq
 rw [List.length_append] at this
 unfold Qt
 omega
theorem PZ (p : Iw) (F : List Dk) (r : Dy) : (Wc p F r).length = (Qt r.Key F).length:=by
 have:=(GF r.Key F).length_eq
 unfold Wc
 simpa using this
def Ln3 (a b : Ic) : Prop:=(0 < a.Rank ∧ 0 < b.Rank ∧ a.Time ≤ b.Time ∧ a.Rank ≤ b.Rank ∧ (a.Rank = b.Rank ↔ a.Time = b.Time)) ∨ (0 < a.Rank ∧ b.Rank = 0) ∨ (a.Rank = 0 ∧ b.Rank = 0)
theorem VU (p : Iw) (F : List Dk) (r : Dy) : (Wc p F r).Pairwise Ln3:=by
 unfold Wc
 rw [List.pairwise_map]
 refine (SC r.Key F).imp fun {a b} hab=>?_
 rcases hab with ⟨h1,h2,h3,h4,h5,_⟩ | ⟨h1,h2⟩ | ⟨h1,h2,_⟩
 ·exact .inl ⟨h1,h2,h3,h4,h5⟩
 ·exact .inr (.inl ⟨h1,h2⟩)
 ·exact .inr (.inr ⟨h1,h2⟩)
end Go.Proofs.YtfcmmengcdebnaaGreatDoor
/- What the program does at a few given inputs. No program stands here but its twins. -/
namespace Go.Proofs.YtfcmmengcdebnaaGreatDoor
open Go
theorem VV : Sp = some true:=by decide +kernel
end Go.Proofs.YtfcmmengcdebnaaGreatDoor
namespace Go.Proofs.YtfcmmengcdebnaaGreatDoor
open Go
theorem VW (y : Ic) : ∀ (l : List Gq) (i : Nat),(∃ s ∈ l,s.Who = y.Who) → 0 ≤ Ek y (-1) l i
 | [],_,h=>by obtain ⟨s,hs,_⟩:=h; cases hs
 | x :: l,i,h=>by
  rw [Ek]
  unfold Mp
  by_cases hx : x.Who = y.Who
  ·rw [if_pos (decide_eq_true hx)]; omega
  ·rw [if_neg (by simpa using hx)]
   obtain ⟨s,hs,e⟩:=h
   rcases List.mem_cons.1 hs with rfl | hs
   ·exact absurd e hx
   ·exact VW y l (i + 1) ⟨s,hs,e⟩
theorem SH (r5 : List Gq × Int) (r6 : List Ic × Int) (j : Option Bool) (hlen : r6.1.length ≤ 1000) (hup : r6.1.Pairwise Ln3)
  (h1 : ∀ y ∈ r6.1,(∃ s ∈ r5.1,s.Who = y.Who) ∧ ((0 < y.Rank ∧ 0 < y.Time ∧ y.Fault = 0) ∨ (y.Rank = 0 ∧ ¬ (0 < y.Time ∧ y.Fault = 0))) ∧ (y.Rank = 0 → y.Points.Num = 0)) : ∀ (ys dn : List Ic),r6.1 = dn ++ ys → Hf r5 r6 j ys dn.length = j
 | [],_,_=>rfl
 | y :: ys,dn,he=>by
  obtain ⟨a1,a2,a3⟩:=h1 y (by rw [he]; simp)
  have ih:=SH r5 r6 j hlen hup h1 ys (dn ++ [y]) (by rw [he]; simp)
  rw [List.length_append,List.length_singleton] at ih
  have hl : r6.1.length = dn.length + (ys.length + 1):=by rw [he]; simp
  rw [Hf]
  simp only [On]
  have hc : Ef r5.1 y = true:=by
   unfold Ef Ih
   rw [On]
   exact decide_eq_true (VW y r5.1 0 a1)
  have hb : (!decide (decide (0 < y.Rank) = (decide (0 < y.Time) && decide (y.Fault = 0)))) = false:=by
   rcases a2 with ⟨b1,b2,b3⟩ | ⟨b1,b2⟩
   ·simp [b1,b2,b3]
   ·rw [b1]
    by_cases c : 0 < y.Time
    ·have : y.Fault ≠ 0:=fun e=>b2 ⟨c,e⟩
     simp [this]
    ·simp [c]
  have hp : (decide (y.Rank = 0) && !decide (y.Points.Num = 0)) = false:=by
   by_cases c : y.Rank = 0
   ·rw [decide_eq_true (a3 c)]; simp
   ·simp [c]
  rw [hc,hb,hp,if_neg (by simp)]
  rcases List.eq_nil_or_concat dn with hdn | ⟨d,z,hdn⟩
  ·subst hdn
   simp only [List.length_nil,Int.natCast_zero,Int.lt_irrefl,decide_false,Bool.false_and,Bool.false_eq_true,if_false]
   simp only [List.length_nil] at ih
   exact ih
  ·have hdn : dn = d ++ [z]:=by rw [hdn]; simp
   have hdl : dn.length = d.length + 1:=by rw [hdn]; simp
   have h0 : (0 : Int) < (dn.length : Int):=by omega
   have hw : W ((dn.length : Int) - 1) = (d.length : Int):=by rw [Nu (by omega) (by omega)]; omega
   have hn : nth r6.1 (d.length : Int) = z:=by rw [he,hdn]; unfold nth; simp
   have hz : Ln3 z y:=by
    rw [he,hdn,List.append_assoc,List.pairwise_append] at hup
    have:=hup.2.1
    simp only [List.cons_append,List.nil_append,List.pairwise_cons] at this
    exact this.1 y (by simp)
   have hi : inB (d.length : Int) r6.1.length = true:=Jf.2 (by omega)
   rw [decide_eq_true h0,if_pos rfl,hw,Fx hi,hn]
   simp only [Bool.true_and]
   rcases hz with ⟨g1,g2,g3,g4,g5⟩ | ⟨g1,g2⟩ | ⟨g1,g2⟩
   ·have f1 : decide (z.Rank = 0) = false:=decide_eq_false (by omega)
    have f2 : decide (0 < y.Rank) = true:=decide_eq_true g2
    have f3 : decide (y.Time < z.Time) = false:=decide_eq_false (by omega)
    have f4 : (!decide (decide (z.Time = y.Time) = decide (z.Rank = y.Rank))) = false:=by
     by_cases c : z.Time = y.Time
     ·simp [c,g5.2 c]
     ·have : ¬ z.Rank = y.Rank:=fun e=>c (g5.1 e)
      simp [c,this]
    simp only [f1,f2,f3,f4,Bool.false_and,Bool.true_and,Bool.false_or,Bool.or_false,Bool.false_eq_true,if_false,if_true,Fx hi]
    exact ih
   ·have f2 : decide (0 < y.Rank) = false:=decide_eq_false (by omega)
    simp only [f2,Bool.and_false,Bool.false_and,Bool.false_or,Bool.false_eq_true,if_false,Bool.or_false]
    exact ih
   ·have f2 : decide (0 < y.Rank) = false:=decide_eq_false (by omega)
    simp only [f2,Bool.and_false,Bool.false_and,Bool.false_or,Bool.false_eq_true,if_false,Bool.or_false]
    exact ih
theorem SI {p : Iw} (hp : Wf p) {l : List Dk} (h : LG l) (a b : Int) (j : Int → Option Bool) : ∀ (ys : List Dy) (i : Nat) (x : Nat),(∀ r ∈ ys,r ∈ p.Races) → x + 4 * ys.length ≤ 1000 → Gk (p,a) (l,b) j ys i (x : Int) = j ((x + (AO (Mm l 60) ys).length : Nat) : Int)
 | [],i,x,_,_=>by simp [Gk,AO]
 | r :: ys,i,x,hr,hx=>by
  simp only [List.length_cons] at hx
  have hr0:=hr r List.mem_cons_self
  have hm : Hz 60 = true:=by decide
  have hF:=h.facts 60
  have e2:=(FK hp hF hr0).1
  rw [← PW hp h hr0 60 hm] at e2
  have hz : Lp [0,0] = 0:=by decide +kernel
  have hf:=AK hF r.Key
  have he:=Zn r.Key (Mm l 60)
  have hll:=PZ p (Mm l 60) r
  have hml:=VT (Mm l 60) r
  have hql:=List.length_filter_le (fun d=>!CB r.Key (Mm l 60) d) (Xh r.Key (Mm l 60))
  have hle : (Wc p (Mm l 60) r).length ≤ 1000:=by have:=TS p hF r; omega
  have hall : ∀ y ∈ Wc p (Mm l 60) r,(∃ s ∈ (Xh r.Key (Mm l 60)).map fun d=>Gq.mk d.Who d.Time,s.Who = y.Who) ∧ ((0 < y.Rank ∧ 0 < y.Time ∧ y.Fault = 0) ∨ (y.Rank = 0 ∧ ¬ (0 < y.Time ∧ y.Fault = 0))) ∧ (y.Rank = 0 → y.Points.Num = 0):=fun y hy=>by
   obtain ⟨d,hd,k1,k2,k3,k4,k5,k6⟩:=line_ok hp hF hr0 hy
   refine ⟨⟨Gq.mk d.Who d.Time,List.mem_map_of_mem (CP hF hd).1,k1.symm⟩,?_,fun h0=>?_⟩
   ·rcases k5 with ⟨q1,_,q2,q3⟩ | ⟨q1,q2⟩
    ·exact .inl ⟨q1,q2,q3⟩
    ·exact .inr ⟨q1,q2⟩
   ·rw [TT hp hF hr0 hy h0]; decide +kernel
  have hup:=VU p (Mm l 60) r
  have hE : (((Xh r.Key (Mm l 60)).map fun d=>Gq.mk d.Who d.Time).length : Int) - ((Wc p (Mm l 60) r).length : Int) = (((Xh r.Key (Mm l 60)).filter fun d=>!CB r.Key (Mm l 60) d).length : Int):=by rw [List.length_map,hll,hml]
  have hM : (AO (Mm l 60) (r :: ys)).length = ((Xh r.Key (Mm l 60)).filter fun d=>!CB r.Key (Mm l 60) d).length + (AO (Mm l 60) ys).length:=by
   unfold AO
   simp only [List.map_cons,List.flatten_cons,List.length_append,List.length_map]
  rw [Gk,PX hp h hr0 60 hm]
  simp only [Option.bind_some]
  rw [e2,hM]
  generalize Wc p (Mm l 60) r = Ls at hle hall hup hE
  generalize ((Xh r.Key (Mm l 60)).map fun d=>Gq.mk d.Who d.Time) = Es at hall hE
  generalize ((Xh r.Key (Mm l 60)).filter fun d=>!CB r.Key (Mm l 60) d).length = q at hE hql
  have w1 : W ((Es.length : Int) - (Ls.length : Int)) = (q : Int):=by rw [hE]; exact Nu (by omega) (by omega)
  have w2 : W ((x : Int) + (q : Int)) = ((x + q : Nat) : Int):=by rw [Nu (by omega) (by omega)]; rfl
  simp only [Option.bind_some,hz,decide_true,Bool.not_true,Bool.false_eq_true,if_false,On]
  rw [w1,w2]
  have key:=SH (Es,0) (Ls,0) (Gk (p,a) (l,b) j ys (i + 1) ((x + q : Nat) : Int)) hle hup hall Ls [] rfl
  rw [List.length_nil] at key
  rw [key,SI hp h a b j ys (i + 1) _ (fun z hz=>hr z (List.mem_cons_of_mem _ hz)) (by omega)]
  congr 2
  omega
theorem plain_ResultsHangTogether (l : List Int) (hl : l.length ≤ 9223372036854775807) : Ni l = some true:=by
 have hL : FE l:=by unfold FE; omega
 obtain ⟨p,a1,e1,p1,q1,hp⟩:=VI hL (a:=0) (by omega) (by omega)
 obtain ⟨n,a2,e2,p2,q2,n1,n2⟩:=Zk hL (a:=a1) (by omega) (by omega) 0 16 (by omega) (by omega) (by omega)
 obtain ⟨x,a3,e3,p3,q3,x1,x2,x3⟩:=TL hL n (by omega) (by omega) (a:=a2) (by omega) (by omega)
 have hG : LG x:=LG.of x2 x3 (by omega)
 have hm : Hz 60 = true:=by decide
 have hfew:=hp.few
 unfold Ni
 rw [e1]; simp only [Option.bind_some]
 rw [e2]; simp only [Option.bind_some]
 rw [e3]; simp only [Option.bind_some]
 rw [PY hp hG 60 hm]
 simp only [Option.bind_some,decide_true,Bool.not_true,Bool.false_eq_true,if_false,On]
 have key:=SI hp hG a1 a3 (fun (x1 : Int)=>if (decide (x1 = ((AO (Mm x 60) p.Races).length : Int))) then Option.bind (Sp) (fun r7=>some ((decide (x1 = ((AO (Mm x 60) p.Races).length : Int))) && r7)) else some ((decide (x1 = ((AO (Mm x 60) p.Races).length : Int))) && true)) p.Races 0 0 (fun _ hr=>hr) (by omega)
 refine Eq.trans key ?_
 simp only [Nat.zero_add,decide_true,if_true,VV,Option.bind_some,Bool.and_self]
end Go.Proofs.YtfcmmengcdebnaaGreatDoor
