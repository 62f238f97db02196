/- The plain law of PointsStay. No program stands here but its twins. -/
import Derived.Test.YtfdcgchgkojfiaaGreatDoorPPtsS
namespace Go.Proofs.YtfdcgchgkojfiaaGreatDoor
open Go
def IV (g : List An) : Prop:=∀ a x b,g = a ++ x :: b → 0 < x.Rank → x.Rank = (a.length : Int) + 1 ∨ ∃ d y,a = d ++ [y] ∧ y.Rank = x.Rank
theorem AN {α : Type} {p q : α → Bool} {e : α} (he : p e = true) (hq : q e = false) : ∀ (l : List α),(∀ x ∈ l,q x = true → p x = true) → e ∈ l → l.countP q < l.countP p
 | [],_,h=>by cases h
 | x :: l,hpq,h=>by
  rw [List.countP_cons,List.countP_cons]
  have hm : l.countP q ≤ l.countP p:=List.countP_mono_left fun z hz=>hpq z (List.mem_cons_of_mem _ hz)
  rcases List.mem_cons.1 h with rfl | h
  ·rw [if_pos he,if_neg (by simp [hq])]; omega
  ·have ih:=AN he hq l (fun z hz=>hpq z (List.mem_cons_of_mem _ hz)) h
   have:=hpq x List.mem_cons_self
   split
   ·rename_i h1; rw [if_pos (this h1)]; omega
   ·split <;> omega
theorem rk_lt {o : List An} {w z : An} (hw : w ∈ o) (h0 : 0 < w.Rank) : rk o w.Rank < rk o z.Rank ↔ w.Rank < z.Rank:=by
 unfold rk
 constructor
 ·intro h
  rcases Int.lt_or_le w.Rank z.Rank with h1 | h1
  ·exact h1
  ·have : o.countP (fun u=>decide (0 < u.Rank) && decide (u.Rank < z.Rank)) ≤ o.countP (fun u=>decide (0 < u.Rank) && decide (u.Rank < w.Rank)) :=
    List.countP_mono_left fun u _ hu=>by simp only [Bool.and_eq_true,decide_eq_true_eq] at hu ⊢; omega
   omega
 ·intro h
  have:=AN (p:=fun u : An=>decide (0 < u.Rank) && decide (u.Rank < z.Rank)) (q:=fun u=>decide (0 < u.Rank) && decide (u.Rank < w.Rank)) (e:=w) (by simp [h0,h]) (by simp) o (fun u _ hu=>by simp only [Bool.and_eq_true,decide_eq_true_eq] at hu ⊢; omega) hw
  omega
structure GGd (race : ByteArray) (rel : Bool) (g : List An) : Prop where
 len : g.length ≤ 5
 row : ∀ x ∈ g,x.Race = race ∧ x.Relay = rel ∧ x.Who ∈ Si ∧ x.Club ∈ Ui ∧ 0 ≤ x.Rank ∧ x.Rank ≤ 6
 asc : g.Pairwise fun x y=>Sg x y = true
 who : g.Pairwise fun x y=>x.Who ≠ y.Who
 rank : IV g
theorem IW {race : ByteArray} {rel : Bool} {o : List An} (h : O0 race rel o) : GGd race rel (gp o):=by
 have hperm : (gp o).Perm (o.map (hR o)):=Rc _ _
 have hwho0 : (o.map (hR o)).Pairwise fun x y=>x.Who ≠ y.Who:=by
  rw [List.pairwise_map]; exact h.who
 have hwho : (gp o).Pairwise fun x y=>x.Who ≠ y.Who:=(hperm.pairwise_iff (fun h=>h.symm)).2 hwho0
 have hasc : (gp o).Pairwise fun x y=>Sg x y = true:=Xg DW _ (hwho0.imp fun hne h1=>DX hne h1)
 have hrow : ∀ x ∈ gp o,x.Race = race ∧ x.Relay = rel ∧ x.Who ∈ Si ∧ x.Club ∈ Ui ∧ 0 ≤ x.Rank ∧ x.Rank ≤ 6:=fun x hx=>by
  obtain ⟨z,hz,rfl⟩:=List.mem_map.1 (hperm.subset hx)
  obtain ⟨r1,r2,r3,r4,_⟩:=h.row z hz
  exact ⟨r1,r2,r3,r4,hR_rr h z⟩
 refine ⟨by rw [hperm.length_eq,List.length_map]; exact h.len,hrow,hasc,hwho,fun a x b e hx=>?_⟩
 have hxm : x ∈ gp o:=by rw [e]; simp
 obtain ⟨z,hz,hxz⟩:=List.mem_map.1 (hperm.subset hxm)
 have hz0 : 0 < z.Rank:=by
  rcases Int.lt_or_le 0 z.Rank with h1 | h1
  ·exact h1
  ·have : x.Rank = 0:=by rw [← hxz]; unfold hR; simp only; rw [if_neg (by omega)]
   omega
 have hxr : x.Rank = (rk o z.Rank : Int):=by rw [← hxz]; unfold hR; simp only; rw [if_pos hz0]
 -- how many are less
 have hcount : (gp o).countP (fun u=>decide (0 < u.Rank) && decide (u.Rank < x.Rank)) + 1 = rk o z.Rank:=by
  rw [hperm.countP_eq,List.countP_map]
  have : o.countP ((fun u : An=>decide (0 < u.Rank) && decide (u.Rank < x.Rank)) ∘ hR o) = o.countP fun u=>decide (0 < u.Rank) && decide (u.Rank < z.Rank):=by
   refine List.countP_congr fun u hu=>?_
   simp only [Function.comp,Bool.and_eq_true,decide_eq_true_eq]
   rw [hxr]
   have hur:=(h.row u hu).2.2.2.2
   unfold hR
   simp only
   by_cases hu0 : 0 < u.Rank
   ·rw [if_pos hu0]
    have:=@rk_lt o u z hu hu0
    have h1 : 0 < (rk o u.Rank : Int):=by unfold rk; omega
    omega
   ·rw [if_neg hu0]; omega
  rw [this]; unfold rk; omega
 have hle : ∀ u v : An,u ∈ gp o → v ∈ gp o → Sg u v = true → kR u ≤ kR v:=fun u v hu hv hl=>by
  rw [Sh,(hrow u hu).1,(hrow v hv).1,Ut] at hl
  rcases hl with hl | ⟨_,hl | hl⟩ <;> omega
 have hkx : kR x = x.Rank:=by unfold kR; rw [if_neg (by omega)]
 have hasc':=hasc
 rw [e,List.pairwise_append,List.pairwise_cons] at hasc'
 obtain ⟨s1,⟨s2,_⟩,s3⟩:=hasc'
 have hb0 : b.countP (fun u=>decide (0 < u.Rank) && decide (u.Rank < x.Rank)) = 0:=by
  rw [List.countP_eq_zero]
  intro u hu
  have hum : u ∈ gp o:=by rw [e]; simp [hu]
  have:=hle x u hxm hum (s2 u hu)
  unfold kR at this
  have hxr6:=(hrow x hxm).2.2.2.2
  simp only [Bool.and_eq_true,decide_eq_true_eq,not_and]
  intro h1 h2
  rw [if_neg (by omega),if_neg (by omega)] at this
  omega
 rw [e,List.countP_append,List.countP_cons,hb0,if_neg (by simp)] at hcount
 have hal:=List.countP_le_length (p:=fun u : An=>decide (0 < u.Rank) && decide (u.Rank < x.Rank)) (l:=a)
 by_cases hc : a.countP (fun u=>decide (0 < u.Rank) && decide (u.Rank < x.Rank)) = a.length
 ·left; omega
 ·right
  have hex : ∃ v ∈ a,¬ ((decide (0 < v.Rank) && decide (v.Rank < x.Rank)) = true):=by
   rcases Classical.em (∃ v ∈ a,¬ ((decide (0 < v.Rank) && decide (v.Rank < x.Rank)) = true)) with h1 | h1
   ·exact h1
   ·exfalso
    refine hc (List.countP_eq_length.2 fun v hv=>?_)
    rcases Classical.em ((decide (0 < v.Rank) && decide (v.Rank < x.Rank)) = true) with h2 | h2
    ·exact h2
    ·exact (h1 ⟨v,hv,h2⟩).elim
  obtain ⟨v,hv,hvn⟩:=hex
  rcases List.eq_nil_or_concat a with rfl | ⟨d,y,rfl⟩
  ·cases hv
  ·simp only [List.concat_eq_append] at *
   refine ⟨d,y,rfl,?_⟩
   have hym : y ∈ gp o:=by rw [e]; simp
   have hvm : v ∈ gp o:=by rw [e]; exact List.mem_append_left _ hv
   have h1 : kR y ≤ kR x:=hle y x hym hxm (s3 y (by simp) x (by simp))
   have h2 : kR v ≤ kR y:=by
    rcases List.mem_append.1 hv with hv | hv
    ·rw [List.pairwise_append] at s1
     exact hle v y hvm hym (s1.2.2 v hv y (by simp))
    ·obtain rfl:=List.mem_singleton.1 hv; omega
   have h3 : kR x ≤ kR v:=by
    have hvr:=(hrow v hvm).2.2.2.2
    have hxr6:=(hrow x hxm).2.2.2.2
    simp only [Bool.and_eq_true,decide_eq_true_eq,not_and] at hvn
    rw [hkx]
    unfold kR
    split
    ·omega
    ·have:=hvn (by omega); omega
   have h4 : kR y = x.Rank:=by omega
   have hyr:=(hrow y hym).2.2.2.2
   have hxr6:=(hrow x hxm).2.2.2.2
   unfold kR at h4
   split at h4 <;> omega
structure LGd (Gs : List (List An)) : Prop where
 grp : ∀ g ∈ Gs,g ≠ [] ∧ ∃ race rel,race ∈ Rl ∧ GGd race rel g
 diff : Gs.Pairwise fun g g'=>∀ x ∈ g,∀ y ∈ g',cB x.Race y.Race < 0
 len : Gs.flatten.length ≤ 15
theorem LGd.one {Gs : List (List An)} (h : LGd Gs) : ∀ g ∈ Gs,One g ∧ g.length ≤ 5:=fun g hg=>by
 obtain ⟨h1,race,rel,_,h2⟩:=h.grp g hg
 exact ⟨⟨h1,fun x hx y hy=>by rw [(h2.row x hx).1,(h2.row y hy).1]⟩,h2.len⟩
theorem LGd.ne {Gs : List (List An)} (h : LGd Gs) : Gs.Pairwise fun g g'=>∀ x ∈ g,∀ y ∈ g',x.Race ≠ y.Race :=
 h.diff.imp fun hd x hx y hy e=>by have:=hd x hx y hy; rw [e,Ut] at this; omega
theorem Pj : ∀ (Gs : List (List An)),(Gs.filter fun g=>!g.isEmpty).flatten = Gs.flatten
 | []=>rfl
 | g :: Gs=>by
  rw [List.filter_cons]
  cases g with
  | nil=>simp [Pj Gs]
  | cons a b=>simp [Pj Gs]
theorem GU {L : List Int} (hL : Wp L) {a : Int} (h0 : 0 ≤ a) (h1 : a ≤ 100000) : Dr a 48 (fun l=>∃ Gs,l = Gs.flatten ∧ LGd Gs) (Km L a):=by
 unfold Km
 simp only [He]
 obtain ⟨os,b,e,g1,g2,g3,g4⟩:=sc_l1 hL (fun x1 x2=>some (x1,x2)) [Ke,Lz,Ma] 0 [] a h0 (by simp; omega) (by simp)
 simp only [List.length_cons,List.length_nil] at g2 g3
 refine ⟨_,b,e,g1,by omega,(os.map fun p=>gp p.2).filter fun g=>!g.isEmpty,by rw [Pj]; simp,?_⟩
 match os,g3 with
 | [p1,p2,p3],_ =>
  have o1:=IW (g4 0 _ p1 rfl rfl)
  have o2:=IW (g4 1 _ p2 rfl rfl)
  have o3:=IW (g4 2 _ p3 rfl rfl)
  refine ⟨fun g hg=>?_,?_,?_⟩
  ·obtain ⟨hm,hne⟩:=List.mem_filter.1 hg
   refine ⟨fun h=>by subst h; simp at hne,?_⟩
   simp only [List.map_cons,List.map_nil,List.mem_cons,List.not_mem_nil,or_false] at hm
   rcases hm with rfl | rfl | rfl
   ·exact ⟨Ke,p1.1,by simp [Rl],o1⟩
   ·exact ⟨Lz,p2.1,by simp [Rl],o2⟩
   ·exact ⟨Ma,p3.1,by simp [Rl],o3⟩
  ·refine List.Pairwise.filter _ ?_
   have c1 : cB Ke Lz < 0:=by decide +kernel
   have c2 : cB Ke Ma < 0:=by decide +kernel
   have c3 : cB Lz Ma < 0:=by decide +kernel
   simp only [List.map_cons,List.map_nil,List.pairwise_cons,List.mem_cons,List.not_mem_nil,or_false]
   refine ⟨fun g hg x hx y hy=>?_,fun g hg x hx y hy=>?_,(fun g hg=>hg.elim),List.Pairwise.nil⟩
   ·rcases hg with rfl | rfl
    ·rw [(o1.row x hx).1,(o2.row y hy).1]; exact c1
    ·rw [(o1.row x hx).1,(o3.row y hy).1]; exact c2
   ·subst hg
    rw [(o2.row x hx).1,(o3.row y hy).1]; exact c3
  ·rw [Pj]
   have:=o1.len; have:=o2.len; have:=o3.len
   simp; omega
theorem LGd.row {Gs : List (List An)} (h : LGd Gs) : ∀ x ∈ Gs.flatten,x.Race ∈ Rl ∧ x.Who ∈ Si ∧ x.Club ∈ Ui ∧ 0 ≤ x.Rank ∧ x.Rank ≤ 6:=fun x hx=>by
 obtain ⟨g,hg,hx⟩:=List.mem_flatten.1 hx
 obtain ⟨_,race,rel,hr,h2⟩:=h.grp g hg
 obtain ⟨r1,_,r3,r4,r5⟩:=h2.row x hx
 exact ⟨by rw [r1]; exact hr,r3,r4,r5⟩
theorem LGd.asc {Gs : List (List An)} (h : LGd Gs) : Gs.flatten.Pairwise fun x y=>Sg x y = true:=by
 rw [List.pairwise_flatten]
 refine ⟨fun g hg=>?_,h.diff.imp fun hd x hx y hy=>Sh.2 (.inl (hd x hx y hy))⟩
 obtain ⟨_,race,rel,_,h2⟩:=h.grp g hg
 exact h2.asc
theorem LGd.who {Gs : List (List An)} (h : LGd Gs) : Gs.flatten.Pairwise fun x y=>¬ (x.Race = y.Race ∧ x.Who = y.Who):=by
 rw [List.pairwise_flatten]
 refine ⟨fun g hg=>?_,h.ne.imp fun hd x hx y hy e=>hd x hx y hy e.1⟩
 obtain ⟨_,race,rel,_,h2⟩:=h.grp g hg
 exact h2.who.imp fun hne e=>hne e.2
theorem keyP {s : ByteArray} (h : s ∈ Rl ∨ s ∈ Si ∨ (s ∈ Ui ∧ s ≠ Cy)) : Hf s = some true:=by
 simp only [Rl,Si,Ui,List.mem_cons,List.not_mem_nil,or_false] at h
 rcases h with (rfl | rfl | rfl) | (rfl | rfl | rfl | rfl | rfl) | ⟨rfl | rfl | rfl | rfl | rfl,hn⟩
 any_goals (decide +kernel)
 exact (hn rfl).elim
theorem DA {x y : An} (hx : 0 ≤ x.Rank ∧ x.Rank ≤ 6) (hy : 0 ≤ y.Rank ∧ y.Rank ≤ 6) (h : Sg x y = true) : Mz x y < 0:=by
 have hc : Fl x.Race y.Race = cB x.Race y.Race:=rfl
 have hw : Fl x.Who y.Who = cB x.Who y.Who:=rfl
 have hor : ∀ a b c : Int,Qx [a,b,c] = if a ≠ 0 then a else if b ≠ 0 then b else c:=fun a b c=>by
  unfold Qx
  simp only [He]
  rw [Jf,Jf,Jf,Jf]
  by_cases h1 : a = 0
  ·by_cases h2 : b = 0
   ·by_cases h3 : c = 0
    ·simp [h1,h2,h3]
    ·simp [h1,h2,h3]
   ·simp [h1,h2]
  ·simp [h1]
 have hk : Ia x.Rank y.Rank = kR x - kR y:=by
  have k1:=@BY x ⟨hx.1,by omega⟩
  have k2:=@BY y ⟨hy.1,by omega⟩
  unfold Ia
  simp only [He]
  have e : kR x - kR y = W (kR x - kR y):=(Mw (by omega) (by omega)).symm
  rw [e]
  unfold kR
  by_cases a : x.Rank = 0
  ·by_cases b : y.Rank = 0
   ·simp [a,b]
   ·simp [a,b]
  ·by_cases b : y.Rank = 0
   ·simp [a,b]
   ·simp [a,b]
 unfold Mz
 rw [hc,hw,hk,hor]
 rw [Sh] at h
 rcases h with h | ⟨e,h⟩
 ·rw [if_pos (by omega)]; exact h
 ·rw [e,Ut,if_neg (by simp)]
  rcases h with h | ⟨k,h⟩
  ·rw [if_pos (by omega)]; omega
  ·rw [if_neg (by omega)]; exact h
theorem FR (j : List (Ct × Bool) → Option Int) (l : List An) (hw : l.Pairwise fun x y=>¬ (x.Race = y.Race ∧ x.Who = y.Who)) : ∀ (ys dn : List An) (m : List (Ct × Bool)),l = dn ++ ys → (∀ e,Ff m e false = true → ∃ x ∈ dn,e = Ct.mk x.Race x.Who) →
  ∃ m',Hu j ys dn.length m = j m'
 | [],dn,m,_,_=>⟨m,rfl⟩
 | y :: ys,dn,m,h1,h2=>by
  have hno : Ff m (Ct.mk y.Race y.Who) false = false:=by
   cases hm : Ff m (Ct.mk y.Race y.Who) false with
   | false=>rfl
   | true =>
    obtain ⟨x,hx,e⟩:=h2 _ hm
    rw [h1,List.pairwise_append] at hw
    injection e with e1 e2
    exact (hw.2.2 x hx y List.mem_cons_self ⟨e1.symm,e2.symm⟩).elim
  rw [Hu,hno,if_neg (by simp)]
  obtain ⟨m',e⟩:=FR j l hw ys (dn ++ [y]) (Es m (Ct.mk y.Race y.Who) true) (by rw [h1]; simp) (fun e he=>by
   rw [Ur] at he
   split at he
   ·rename_i hk; exact ⟨y,by simp,hk⟩
   ·obtain ⟨x,hx,e'⟩:=h2 e he; exact ⟨x,by simp [hx],e'⟩)
  rw [List.length_append,List.length_singleton] at e
  exact ⟨m',e⟩
theorem FT (g : List An) (g0 : An) (hg0 : nth g 0 = g0) (hin : inB 0 g.length = true) : ∀ (ys : List An) (i : Nat),(∀ y ∈ ys,y.Relay = g0.Relay) → Dm g (some (-1)) ys i = some (-1)
 | [],_,_=>rfl
 | y :: ys,i,h=>by
  rw [Dm]
  unfold Nh
  rw [Ft hin,hg0,h y List.mem_cons_self]
  simp only [decide_true,Bool.not_true,Option.bind_some,Bool.false_eq_true,if_false]
  exact FT g g0 hg0 hin ys (i + 1) fun z hz=>h z (List.mem_cons_of_mem _ hz)
theorem DB (j : Option Int) : ∀ (Gs : List (List An)) (i : Nat),(∀ g ∈ Gs,g ≠ [] ∧ ∃ race rel,race ∈ Rl ∧ GGd race rel g) → Hb j Gs i = j
 | [],_,_=>rfl
 | g :: Gs,i,h=>by
  obtain ⟨h1,race,rel,_,h2⟩:=h g List.mem_cons_self
  rw [Hb]
  unfold Ge Gq
  simp only [He]
  have hp:=List.length_pos_iff.2 h1
  have hin : inB 0 g.length = true:=Jh.2 (by omega)
  have hm : nth g 0 ∈ g:=List.mem_of_getElem? (Db hin).1
  rw [FT g (nth g 0) rfl hin g 0 fun y hy=>by rw [(h2.row y hy).2.1,(h2.row _ hm).2.1]]
  simp only [Option.bind_some]
  rw [if_neg (by simp)]
  exact DB j Gs (i + 1) fun g' h'=>h g' (List.mem_cons_of_mem _ h')
theorem DC (g : List An) (hr : IV g) (hl : g.length ≤ 5) (j : Option Int) : ∀ (ys dn : List An),g = dn ++ ys → Hv g j ys dn.length = j
 | [],_,_=>rfl
 | y :: ys,dn,h=>by
  have hdl : dn.length ≤ 5:=by rw [h] at hl; simp at hl; omega
  have ih:=DC g hr hl j ys (dn ++ [y]) (by rw [h]; simp)
  rw [List.length_append,List.length_singleton] at ih
  rw [Hv]
  simp only [He]
  rw [Mw (by omega) (by omega)]
  by_cases hc : ((decide (0 < y.Rank)) && (!decide (y.Rank = ((dn.length : Int) + 1)))) = true
  ·rw [if_pos hc]
   simp only [Bool.and_eq_true,decide_eq_true_eq,Bool.not_eq_true',decide_eq_false_iff_not] at hc
   rcases hr dn y ys h hc.1 with h1 | ⟨d,p,e,h1⟩
   ·exact (hc.2 h1).elim
   ·subst e
    have hlen : ((d ++ [p]).length : Int) = (d.length : Int) + 1:=by simp
    have hn : nth g (d.length : Int) = p:=by
     have : g = d ++ p :: (y :: ys):=by rw [h]; simp
     rw [this]; exact Pq d p (y :: ys) rfl
    have hin : inB (d.length : Int) g.length = true:=Jh.2 (by rw [h]; simp; omega)
    have hz : decide (((d ++ [p]).length : Int) = 0) = false:=decide_eq_false (by omega)
    rw [hz,if_neg (by simp),hlen,show (d.length : Int) + 1 - 1 = (d.length : Int) by omega,Mw (by omega) (by omega),Ft hin,hn,h1]
    simp only [decide_true,Bool.not_true,Bool.or_self,Bool.and_false,Bool.false_eq_true,if_false]
    exact ih
  ·rw [if_neg hc]
   simp only [Bool.not_eq_true] at hc
   rw [if_neg (by rw [hc]; simp)]
   exact ih
theorem DD (j : Option Int) : ∀ (Gs : List (List An)) (i : Nat),(∀ g ∈ Gs,g ≠ [] ∧ ∃ race rel,race ∈ Rl ∧ GGd race rel g) → Gj j Gs i = j
 | [],_,_=>rfl
 | g :: Gs,i,h=>by
  obtain ⟨h1,race,rel,_,h2⟩:=h g List.mem_cons_self
  rw [Gj]
  simp only [He]
  have:=DC g h2.rank h2.len (Gj j Gs (i + 1)) g [] rfl
  rw [List.length_nil] at this
  rw [this]
  exact DD j Gs (i + 1) fun g' h'=>h g' (List.mem_cons_of_mem _ h')
theorem DE (j : Option Int) : ∀ (Gs : List (List An)) (i : Nat),(∀ g ∈ Gs,g.length ≤ 5) → Hc j Gs i = j
 | [],_,_=>rfl
 | g :: Gs,i,h=>by
  have hl:=h g List.mem_cons_self
  rw [Hc]
  simp only [He]
  rw [Io,if_neg (by simp; omega)]
  exact DE j Gs (i + 1) fun g' h'=>h g' (List.mem_cons_of_mem _ h')
theorem DF {Gs : List (List An)} (h : LGd Gs) : Mc Gs.flatten = some 0:=by
 unfold Mc
 simp only [He]
 have hlen:=h.len
 obtain ⟨m',e⟩:=FR (fun _=>Option.bind (Ng Gs.flatten) (fun r1=>Hb (Gj (Hc (some 0) r1 0) r1 0) r1 0)) Gs.flatten h.who Gs.flatten [] [] rfl (fun e he=>by simp [Ff,Ps,Iy] at he)
 rw [List.length_nil] at e
 rw [e,CV Gs (fun g hg=>(h.one g hg).1) h.ne (by omega),Option.bind_some,DB _ Gs 0 h.grp,DD _ Gs 0 h.grp,DE _ Gs 0 fun g hg=>(h.one g hg).2]
theorem Xp (l : List An) (hl : l.length ≤ 15) (hr : ∀ x ∈ l,x.Race ∈ Rl ∧ x.Who ∈ Si ∧ x.Club ∈ Ui ∧ 0 ≤ x.Rank ∧ x.Rank ≤ 6) (ha : l.Pairwise fun x y=>Sg x y = true) (j : Option Int) : ∀ (ys dn : List An),l = dn ++ ys → Gi l j ys dn.length = j
 | [],_,_=>rfl
 | y :: ys,dn,h=>by
  have ih:=Xp l hl hr ha j ys (dn ++ [y]) (by rw [h]; simp)
  rw [List.length_append,List.length_singleton] at ih
  obtain ⟨r1,r2,r3,r4⟩:=hr y (by rw [h]; simp)
  have hdl : dn.length ≤ 15:=by rw [h] at hl; simp at hl; omega
  have k1:=keyP (.inl r1)
  have k2:=keyP (.inr (.inl r2))
  have hw : Dd y.Rank 0 300 = true:=by unfold Dd; simp; omega
  rw [Gi,k1]
  simp only [He,Option.bind_some,Bool.not_true,Bool.false_eq_true,if_false,k2,Bool.or_self,hw,Bool.false_or]
  have hclub : ∀ Z : Option Int,(if (!decide (y.Club = Cy)) = true then Option.bind (Hf y.Club) (fun r3=>if ((!decide (y.Club = Cy)) && (!r3)) = true then some 5 else Z) else if ((!decide (y.Club = Cy)) && true) = true then some 5 else Z) = Z:=by
   intro Z
   by_cases hc : y.Club = Cy
   ·simp [hc]
   ·rw [if_pos (by simp [hc]),keyP (.inr (.inr ⟨r3,hc⟩)),Option.bind_some,if_neg (by simp)]
  refine (hclub _).trans ?_
  rcases List.eq_nil_or_concat dn with rfl | ⟨d,x,rfl⟩
  ·rw [if_neg (by simp)]; simpa using ih
  ·simp only [List.concat_eq_append] at *
   have hlen : ((d ++ [x]).length : Int) = (d.length : Int) + 1:=by simp
   have hn : nth l (d.length : Int) = x:=by
    have : l = d ++ x :: (y :: ys):=by rw [h]; simp
    rw [this]; exact Pq d x (y :: ys) rfl
   have hin : inB (d.length : Int) l.length = true:=Jh.2 (by rw [h]; simp; omega)
   have hlt : Sg x y = true:=by
    rw [h,List.pairwise_append] at ha
    exact ha.2.2 x (by simp) y (by simp)
   have hneg:=DA (hr x (by rw [h]; simp)).2.2.2 r4 hlt
   rw [if_pos (decide_eq_true (by omega)),hlen,show (d.length : Int) + 1 - 1 = (d.length : Int) by omega,Mw (by omega) (by omega),Ft hin,hn,if_neg (by simp; omega)]
   exact ih
theorem GV {Gs : List (List An)} (h : LGd Gs) : Lt Gs.flatten = some 0:=by
 have hl:=h.len
 unfold Lt
 rw [if_neg (by simp only [decide_eq_true_eq]; omega)]
 simp only [He]
 have:=Xp Gs.flatten hl h.row h.asc (Option.bind (Mc Gs.flatten) (fun r4=>some r4)) Gs.flatten [] rfl
 rw [List.length_nil] at this
 rw [this,DF h]; rfl
theorem FU {t : Hx} {Gs : List (List An)} (ht : AM t) (h : LGd Gs) : Lj t Gs.flatten = some 0:=by
 unfold Lj
 rw [IL ht,GV h]; rfl
end Go.Proofs.YtfdcgchgkojfiaaGreatDoor
namespace Go.Proofs.YtfdcgchgkojfiaaGreatDoor
open Go
def val (f : Cu) : Nat:=(f.Num * 60 / f.Den).toNat
theorem DY (v : Nat) : val (fr v) = v:=by
 obtain ⟨n,d,e,h1,h2,h3,h4⟩:=Yz v
 unfold val
 rw [e]
 simp only
 rw [show (n : Int) * 60 = ((v * d : Nat) : Int) by rw [← h4]; push_cast; rfl,← Int.natCast_ediv,Int.toNat_natCast,Nat.mul_div_cancel _ h1]
def Fo (B : Nat) (f : Cu) : Prop:=f = fr (val f) ∧ val f ≤ B
theorem fo_fr {B v : Nat} (h : v ≤ B) : Fo B (fr v):=⟨by rw [DY],by rw [DY]; exact h⟩
theorem IX {L : List An} {r : Cs} (h : Qc L r) : Fo 6000 r.points_:=by
 obtain ⟨_,_,v,hv,e⟩:=h
 rw [e]; exact fo_fr hv
def Zt (R : List Cs) : Nat:=(R.map fun r=>val r.points_).sum
def sumG (Y : List Cv) : Nat:=(Y.map fun y=>val y.Points).sum
theorem FV : ∀ (R : List Cs),(∀ r ∈ R,Fo 6000 r.points_) → Zt R ≤ 6000 * R.length
 | [],_=>by simp [Zt]
 | r :: R,h=>by
  have:=FV R fun z hz=>h z (List.mem_cons_of_mem _ hz)
  have:=(h r List.mem_cons_self).2
  simp only [Zt,List.map_cons,List.sum_cons,List.length_cons] at *
  omega
def mf (p : ByteArray × Nat) : ByteArray × Cu:=(p.1,fr p.2)
theorem BZ (k : ByteArray) (v : Nat) : ∀ (m : List (ByteArray × Nat)),Es (m.map mf) k (fr v) = (Es m k v).map mf
 | []=>rfl
 | (k',v') :: m=>by
  simp only [List.map_cons,mf,Es]
  split
  ·rfl
  ·have:=BZ k v m
   simp only [List.map_cons,mf] at *
   rw [this]
theorem DG (k : ByteArray) : ∀ (m : List (ByteArray × Nat)) (i : Nat),(Iy (m.map mf) k i).map (·.2) = ((Iy m k i).map (·.2)).map fr
 | [],_=>rfl
 | (k',v') :: m,i=>by
  simp only [List.map_cons,mf,Iy]
  split
  ·rfl
  ·exact DG k m (i + 1)
theorem mget_mf (k : ByteArray) (m : List (ByteArray × Nat)) : Ps (m.map mf) k = (Ps m k).map fr:=DG k m 0
def Ws (m : List (ByteArray × Nat)) : Nat:=(m.map (·.2)).sum
theorem AO {ν : Type} (k : ByteArray) : ∀ (m : List (ByteArray × ν)) (i : Nat),k ∈ m.map (·.1) → ∃ n u,Iy m k i = some (n,u)
 | [],_,h=>by cases h
 | (k',v') :: m,i,h=>by
  simp only [Iy]
  split
  ·exact ⟨i,v',rfl⟩
  ·rename_i hne
   rcases List.mem_cons.1 h with e | h
   ·exact (hne e).elim
   ·exact AO k m (i + 1) h
theorem Zf (k : ByteArray) (v : Nat) : ∀ (m : List (ByteArray × Nat)) (i n u : Nat),Iy m k i = some (n,u) → Ws (Es m k v) + u = Ws m + v ∧ (Es m k v).map (·.1) = m.map (·.1)
 | [],_,_,_,h=>by cases h
 | (k',v') :: m,i,n,u,h=>by
  simp only [Iy] at h
  split at h
  ·rename_i e
   cases h
   simp only [Es,e,if_true,Ws,List.map_cons,List.sum_cons]
   exact ⟨by omega,trivial⟩
  ·rename_i hne
   obtain ⟨h1,h2⟩:=Zf k v m (i + 1) n u h
   simp only [Es,hne,if_false,Ws,List.map_cons,List.sum_cons] at *
   exact ⟨by omega,by rw [h2]⟩
theorem Qs {ν : Type} (k : ByteArray) (v : ν) : ∀ (m : List (ByteArray × ν)),(m.map (·.1)).Nodup → ((Es m k v).map (·.1)).Nodup ∧ ∀ z,z ∈ (Es m k v).map (·.1) ↔ z = k ∨ z ∈ m.map (·.1)
 | [],_=>by simp [Es]
 | (k',v') :: m,h=>by
  rw [List.map_cons,List.nodup_cons] at h
  simp only [Es]
  split
  ·rename_i e
   subst e
   refine ⟨by rw [List.map_cons,List.nodup_cons]; exact h,fun z=>?_⟩
   simp only [List.map_cons,List.mem_cons]
   constructor
   ·rintro (h | h)
    ·exact .inl h
    ·exact .inr (.inr h)
   ·rintro (h | h | h)
    ·exact .inl h
    ·exact .inl h
    ·exact .inr h
  ·rename_i hne
   obtain ⟨h1,h2⟩:=Qs k v m h.2
   rw [List.map_cons,List.nodup_cons]
   refine ⟨⟨fun hm=>?_,h1⟩,fun z=>?_⟩
   ·rcases (h2 _).1 hm with e | hm
    ·exact hne e.symm
    ·exact h.1 hm
   ·simp only [List.map_cons,List.mem_cons,h2 z]
    constructor
    ·rintro (h | h | h)
     ·exact .inr (.inl h)
     ·exact .inl h
     ·exact .inr (.inr h)
    ·rintro (h | h | h)
     ·exact .inr (.inl h)
     ·exact .inl h
     ·exact .inr (.inr h)
structure MOk (m : List (ByteArray × Nat)) (S : Nat) : Prop where
 nodup : (m.map (·.1)).Nodup
 club : ∀ k ∈ m.map (·.1),k ∈ Ui ∧ k ≠ Cy
 sum : Ws m = S
theorem Zg (j : List (ByteArray × Cu) → Option (List (ByteArray × Cu))) : ∀ (ys : List An) (i : Nat) (m : List (ByteArray × Nat)),(∀ y ∈ ys,y.Club ∈ Ui) → MOk m 0 → (∀ p ∈ m,p.2 = 0) →
  ∃ m',Ir j ys i (m.map mf) = j (m'.map mf) ∧ MOk m' 0 ∧ (∀ k ∈ m.map (·.1),k ∈ m'.map (·.1)) ∧ ∀ y ∈ ys,y.Club ≠ Cy → y.Club ∈ m'.map (·.1)
 | [],i,m,_,h,_=>⟨m,rfl,h,fun _ h=>h,fun _ h=>by cases h⟩
 | y :: ys,i,m,h1,h2,h3=>by
  have hys : ∀ z ∈ ys,z.Club ∈ Ui:=fun z hz=>h1 z (List.mem_cons_of_mem _ hz)
  rw [Ir]
  simp only [He]
  by_cases hc : y.Club = Cy
  ·rw [if_neg (by simp [hc])]
   obtain ⟨m',e,g1,g2,g3⟩:=Zg j ys (i + 1) m hys h2 h3
   refine ⟨m',e,g1,g2,fun z hz hne=>?_⟩
   rcases List.mem_cons.1 hz with rfl | hz
   ·exact (hne hc).elim
   ·exact g3 z hz hne
  ·rw [if_pos (by simp [hc]),FF,BZ]
   obtain ⟨k1,k2⟩:=Qs y.Club 0 m h2.nodup
   have hz : ∀ (m : List (ByteArray × Nat)),(∀ p ∈ m,p.2 = 0) → (∀ p ∈ Es m y.Club 0,p.2 = 0) ∧ Ws (Es m y.Club 0) = 0:=by
    intro m
    induction m with
    | nil=>intro _; exact ⟨fun p hp=>by simp [Es] at hp; rw [hp],rfl⟩
    | cons p m ih =>
     obtain ⟨k',v'⟩:=p
     intro h
     have hv : v' = 0:=h (k',v') List.mem_cons_self
     obtain ⟨i1,i2⟩:=ih fun p hp=>h p (List.mem_cons_of_mem _ hp)
     have hs : Ws m = 0:=by
      unfold Ws
      have : ∀ (q : List (ByteArray × Nat)),(∀ p ∈ q,p.2 = 0) → (q.map (·.2)).sum = 0:=by
       intro q
       induction q with
       | nil=>intro _; rfl
       | cons a q ih=>intro h; rw [List.map_cons,List.sum_cons,h a List.mem_cons_self,ih fun p hp=>h p (List.mem_cons_of_mem _ hp)]
      exact this m fun p hp=>h p (List.mem_cons_of_mem _ hp)
     simp only [Es]
     split
     ·refine ⟨fun p hp=>?_,by simp only [Ws,List.map_cons,List.sum_cons] at *; omega⟩
      rcases List.mem_cons.1 hp with rfl | hp
      ·rfl
      ·exact h p (List.mem_cons_of_mem _ hp)
     ·refine ⟨fun p hp=>?_,by simp only [Ws,List.map_cons,List.sum_cons] at *; omega⟩
      rcases List.mem_cons.1 hp with rfl | hp
      ·exact hv
      ·exact i1 p hp
   obtain ⟨z1,z2⟩:=hz m h3
   obtain ⟨m',e,g1,g2,g3⟩:=Zg j ys (i + 1) (Es m y.Club 0) hys ⟨k1,fun k hk=>by
    rcases (k2 k).1 hk with rfl | hk
    ·exact ⟨h1 y List.mem_cons_self,hc⟩
    ·exact h2.club k hk,z2⟩ z1
   refine ⟨m',e,g1,fun k hk=>g2 k ((k2 k).2 (.inr hk)),fun z hz hne=>?_⟩
   rcases List.mem_cons.1 hz with rfl | hz
   ·exact g2 _ ((k2 _).2 (.inl rfl))
   ·exact g3 z hz hne
theorem IY {m : List (ByteArray × Nat)} {k : ByteArray} {i n u : Nat} (h : Iy m k i = some (n,u)) : u ≤ Ws m:=by
 have:=(Zf k 0 m i n u h).1
 omega
theorem DH (L : List An) (j : List (ByteArray × Cu) → Option (List (ByteArray × Cu))) : ∀ (R : List Cs) (i : Nat) (m : List (ByteArray × Nat)) (S : Nat),(∀ r ∈ R,Qc L r) → MOk m S → S + 6000 * R.length ≤ 1000000 → (∀ r ∈ R,r.x_.Club ∈ m.map (·.1)) →
  ∃ m',Hm j R i (m.map mf) = j (m'.map mf) ∧ MOk m' (S + Zt R)
 | [],i,m,S,_,h,_,_=>⟨m,rfl,by simpa [Zt] using h⟩
 | r :: R,i,m,S,h1,h2,h3,h4=>by
  simp only [List.length_cons] at h3
  obtain ⟨n,u,hu⟩:=AO r.x_.Club m 0 (h4 r List.mem_cons_self)
  have hg : Ff (m.map mf) r.x_.Club (Cu.mk 0 0) = fr u:=by
   unfold Ff
   rw [mget_mf]
   unfold Ps
   rw [hu]; rfl
  have hf:=IX (h1 r List.mem_cons_self)
  have hu':=IY hu
  rw [h2.sum] at hu'
  have hv:=hf.2
  rw [Hm,hg,hf.1,add_fr (by omega) (by omega),Option.bind_some,BZ]
  obtain ⟨s1,s2⟩:=Zf r.x_.Club (u + val r.points_) m 0 n u hu
  obtain ⟨k1,_⟩:=Qs r.x_.Club (u + val r.points_) m h2.nodup
  obtain ⟨m',e,g⟩:=DH L j R (i + 1) (Es m r.x_.Club (u + val r.points_)) (S + val r.points_) (fun z hz=>h1 z (List.mem_cons_of_mem _ hz)) ⟨k1,by rw [s2]; exact h2.club,by have:=h2.sum; omega⟩ (by omega) (fun z hz=>by rw [s2]; exact h4 z (List.mem_cons_of_mem _ hz))
  refine ⟨m',e,?_⟩
  have : S + val r.points_ + Zt R = S + Zt (r :: R):=by simp only [Zt,List.map_cons,List.sum_cons]; omega
  rw [← this]; exact g
theorem IZ {t : Hx} {Gs : List (List An)} (ht : AM t) (h : LGd Gs) : ∃ R m,Nc t Gs.flatten = some R ∧ R.length ≤ 15 ∧ (∀ r ∈ R,Qc Gs.flatten r) ∧ Nw t Gs.flatten = some (m.map mf) ∧ MOk m (Zt R):=by
 obtain ⟨R,e,hl,hr⟩:=rows_is t ht.toTOk Gs h.one h.ne h.len
 unfold Nw
 simp only [He,e,Option.bind_some]
 obtain ⟨m1,e1,g1,_,g3⟩:=Zg (fun x1=>Hm (fun x4=>some x4) R 0 x1) Gs.flatten 0 [] (fun y hy=>(h.row y hy).2.2.1) ⟨by simp,(fun k hk=>by cases hk),rfl⟩ (fun p hp=>by cases hp)
 have e1' : Ir (fun x1=>Hm (fun x4=>some x4) R 0 x1) Gs.flatten 0 [] = Hm (fun x4=>some x4) R 0 (m1.map mf):=e1
 rw [e1']
 obtain ⟨m2,e2,g4⟩:=DH Gs.flatten (fun x4=>some x4) R 0 m1 0 hr g1 (by omega) (fun r hr'=>g3 _ (hr r hr').1 (hr r hr').2.1)
 rw [Nat.zero_add] at g4
 exact ⟨R,m2,rfl,hl,hr,e2,g4⟩
def ltG (x y : Cv) : Bool:=decide (Kq x y < 0)
theorem Tc (x y : Cv) : ltG x y = decide (cB x.Key y.Key < 0):=rfl
theorem GW (l : List Cv) (hl : l.length ≤ 12) : Et l 0 (l.length : Int) = some (Lx ltG l):=by
 unfold Et
 simp only [Wo]
 have hins : ∀ (k : List Cv → Option (List Cv)) (rp : List Cv) (x : Cv) (post : List Cv),((rp ++ x :: post).length : Int) = (l.length : Int) → (∀ y,y ∈ rp ∨ y = x ∨ y ∈ post → y ∈ (rp ++ x :: post)) →
   De 0 k (((rp.length : Int) - 0).toNat + 2) (rp.reverse ++ x :: post) (rp.length : Int) = k ((Of ltG x rp).reverse ++ post):=by
  intro k rp x post h1 _
  exact FG (fun x y k=>k (ltG x y)) ltG k (De 0 k) (fun _ _ _=>rfl) rp x post _ (by omega) (by simp at h1; omega) fun y _ k'=>rfl
 cases l with
 | nil=>rfl
 | cons x l =>
  have hw : W (0 + 1) = (([x] : List Cv).length : Int):=rfl
  rw [hw]
  exact Ym ltG (fun x=>some x) (fun k x i=>De 0 k ((i - 0).toNat + 2) x i) (Dh ((x :: l).length : Int) 0 fun x=>some x) ((x :: l).length : Int) (fun _ _ _=>rfl)
   (fun k rp x post h1 h2=>hins k rp x post h1 h2) l [x] _ (by simp only [List.length_cons,List.length_nil]; omega) (by simp only [List.length_cons,List.length_nil]; omega) (by simp only [List.length_cons,List.length_nil] at hl ⊢; omega)
theorem DI (l : List Cv) (hl : l.length ≤ 12) : Gp l = some (Lx ltG l):=by
 unfold Gp
 obtain ⟨r,hr⟩:=Option.isSome_iff_exists.1 (IQ ⟨l.length,by omega⟩)
 simp only at hr
 rw [hr]
 simp only [Option.bind_some]
 unfold Gr
 rw [show (4611686018427387904 : Nat) = 4611686018427387903 + 1 from rfl,Du,Mw (by omega) (by omega),if_pos (decide_eq_true (by omega)),GW l hl]
 rfl
theorem Uu {α : Type} [DecidableEq α] : ∀ (l l' : List α),l.Nodup → (∀ x ∈ l,x ∈ l') → l.length ≤ l'.length
 | [],_,_,_=>by simp
 | x :: l,l',h,hs=>by
  obtain ⟨h1,h2⟩:=List.nodup_cons.1 h
  have hx:=hs x List.mem_cons_self
  have ih:=Uu l (l'.erase x) h2 fun y hy=>(List.mem_erase_of_ne (fun e=>h1 (by rw [← e]; exact hy))).2 (hs y (List.mem_cons_of_mem _ hy))
  rw [List.length_erase_of_mem hx] at ih
  have:=List.length_pos_of_mem hx
  simp only [List.length_cons]; omega
def gm (p : ByteArray × Cu) : Cv:=Cv.mk p.1 p.2
theorem CA (j : List Cv → Option (List Cv)) : ∀ (p : List (ByteArray × Cu)) (x : List Cv),x.length + p.length ≤ 1000 → Jp j p x = j (x ++ p.map gm)
 | [],x,_=>by rw [Jp]; simp
 | y :: p,x,h=>by
  simp only [List.length_cons] at h
  rw [Jp,Ft (by unfold Qt; simp; omega),Option.bind_some,CA j p (x ++ [Cv.mk y.1 y.2]) (by simp; omega)]
  simp [gm]
theorem sums_is {m : List (ByteArray × Nat)} {S : Nat} (h : MOk m S) : ∃ Y,Kr (m.map mf) = some Y ∧ Y.length ≤ 5 ∧ (Y.map (·.Key)).Nodup ∧ (∀ y ∈ Y,y.Key ≠ Cy) ∧ (∀ y ∈ Y,Fo S y.Points) ∧ sumG Y = S:=by
 have hml : m.length ≤ 5:=by
  have:=Uu (m.map (·.1)) Ui h.nodup fun k hk=>(h.club k hk).1
  rw [List.length_map] at this
  exact this
 have hlt : ∀ x y z : Cv,ltG x y = true → ltG y z = true → ltG x z = true:=fun x y z h1 h2=>by
  rw [Tc,decide_eq_true_eq] at *; exact Uh h1 h2
 have hirr : ∀ x : Cv,ltG x x = false:=fun x=>by rw [Tc,Ut]; rfl
 have htot : ∀ l : List Cv,(l.map (·.Key)).Nodup → l.Pairwise fun a b=>ltG b a = false → ltG a b = true:=fun l hl=>by
  refine (List.pairwise_map.1 hl).imp fun {a b} hne hb=>?_
  rw [Tc,decide_eq_false_iff_not] at hb
  rw [Tc,decide_eq_true_eq]
  have h0 : cB a.Key b.Key ≠ 0:=fun e=>hne (Wr e)
  have:=Yn a.Key b.Key
  omega
 have hkeys : ∀ p : List (ByteArray × Cu),(p.map gm).map (·.Key) = p.map (·.1):=fun p=>by rw [List.map_map]; rfl
 have hk0 : (m.map mf).map (·.1) = m.map (·.1):=by rw [List.map_map]; rfl
 refine ⟨Lx ltG ((m.map mf).map gm),?_,?_,?_,?_,?_,?_⟩
 ·unfold Kr
  simp only [He]
  refine Xy fun p hp=>?_
  have hpl : p.length = m.length:=by rw [hp.length_eq,List.length_map]
  rw [CA _ p [] (by simp; omega),List.nil_append,DI _ (by rw [List.length_map]; omega),Option.bind_some]
  have hnd : ((p.map gm).map (·.Key)).Nodup:=by rw [hkeys,(hp.map (·.1)).nodup_iff,hk0]; exact h.nodup
  rw [CW hirr hlt (p.map gm) (Lx ltG ((m.map mf).map gm)) (htot _ hnd) (Xg hlt _ (htot _ (by rw [hkeys,hk0]; exact h.nodup))) fun x=>by
   rw [Sf,(hp.map gm).mem_iff]]
 ·rw [Vp,List.length_map,List.length_map]; exact hml
 ·rw [((Rc ltG ((m.map mf).map gm)).map (·.Key)).nodup_iff,hkeys,hk0]; exact h.nodup
 ·intro y hy
  rw [Sf,List.map_map,List.mem_map] at hy
  obtain ⟨p,hp,rfl⟩:=hy
  exact (h.club p.1 (List.mem_map.2 ⟨p,hp,rfl⟩)).2
 ·intro y hy
  rw [Sf,List.map_map,List.mem_map] at hy
  obtain ⟨p,hp,rfl⟩:=hy
  have hle : p.2 ≤ S:=by
   rw [← h.sum]
   have : ∀ (q : List (ByteArray × Nat)),p ∈ q → p.2 ≤ Ws q:=by
    intro q
    induction q with
    | nil=>intro h; cases h
    | cons a q ih =>
     intro h
     simp only [Ws,List.map_cons,List.sum_cons] at *
     rcases List.mem_cons.1 h with rfl | h
     ·omega
     ·have:=ih h; omega
   exact this m hp
  exact fo_fr hle
 ·have:=((Rc ltG ((m.map mf).map gm)).map (fun y=>val y.Points)).sum_nat
  unfold sumG
  rw [this,List.map_map,List.map_map,← h.sum]
  unfold Ws
  congr 1
  refine List.map_congr_left fun p _=>?_
  simp only [Function.comp,gm,mf,DY]
theorem JA {t : Hx} {Gs : List (List An)} (ht : AM t) (h : LGd Gs) : ∃ R m Y,Nc t Gs.flatten = some R ∧ R.length ≤ 15 ∧ (∀ r ∈ R,Qc Gs.flatten r) ∧ Nw t Gs.flatten = some m ∧ Kr m = some Y ∧ Pb t Gs.flatten = some (Y,0) ∧
  Y.length ≤ 5 ∧ (Y.map (·.Key)).Nodup ∧ (∀ y ∈ Y,y.Key ≠ Cy) ∧ (∀ y ∈ Y,Fo 90000 y.Points) ∧ sumG Y = Zt R:=by
 obtain ⟨R,m,e1,h1,h2,e2,h3⟩:=IZ ht h
 obtain ⟨Y,e3,h4,h5,h6,h7,h8⟩:=sums_is h3
 have hs:=FV R fun r hr=>IX (h2 r hr)
 refine ⟨R,_,Y,e1,h1,h2,e2,e3,?_,h4,h5,h6,fun y hy=>⟨(h7 y hy).1,by have:=(h7 y hy).2; omega⟩,h8⟩
 unfold Pb
 rw [FU ht h]
 simp only [Option.bind_some,decide_true,Bool.not_true,Bool.false_eq_true,if_false,e2,e3]
end Go.Proofs.YtfdcgchgkojfiaaGreatDoor
namespace Go.Proofs.YtfdcgchgkojfiaaGreatDoor
open Go
theorem JB : Ok = some true:=by decide +kernel
end Go.Proofs.YtfdcgchgkojfiaaGreatDoor
namespace Go.Proofs.YtfdcgchgkojfiaaGreatDoor
open Go
theorem sizeP {s : ByteArray} (h : s ∈ Rl ∨ s ∈ Si) : s.size ≤ 5:=by
 simp only [Rl,Si,List.mem_cons,List.not_mem_nil,or_false] at h
 rcases h with (rfl | rfl | rfl) | (rfl | rfl | rfl | rfl | rfl) <;> decide +kernel
theorem FW (j : List Cv → Option (List Cv × Int)) : ∀ (R : List Cs) (i : Nat) (x : List Cv),(∀ r ∈ R,r.x_.Race ∈ Rl ∧ r.x_.Who ∈ Si) → x.length + R.length ≤ 1000 →
  Iq j R i x = j (x ++ R.map fun r=>Cv.mk ((r.x_.Race ++ Py) ++ r.x_.Who) r.points_)
 | [],i,x,_,_=>by rw [Iq]; simp
 | r :: R,i,x,h,hl=>by
  simp only [List.length_cons] at hl
  obtain ⟨h1,h2⟩:=h r List.mem_cons_self
  have s1:=sizeP (.inl h1)
  have s2:=sizeP (.inr h2)
  have s3 : Py.size = 1:=by decide +kernel
  rw [Iq,Ft (by simp only [decide_eq_true_eq]; omega),Ft (by simp only [decide_eq_true_eq,ByteArray.size_append]; omega),Ft (by unfold Qt; simp; omega),
   FW j R (i + 1) _ (fun z hz=>h z (List.mem_cons_of_mem _ hz)) (by simp; omega)]
  simp
end Go.Proofs.YtfdcgchgkojfiaaGreatDoor
namespace Go.Proofs.YtfdcgchgkojfiaaGreatDoor
open Go
theorem CB {α : Type} [DecidableEq α] : ∀ (r : List α) (p x : α),x ∈ nbF p r → x ∈ r
 | [],_,_,h=>by cases h
 | y :: r,p,x,h=>by
  unfold nbF at h
  split at h
  ·exact List.mem_cons_of_mem _ (CB r y x h)
  ·rcases List.mem_cons.1 h with rfl | h
   ·simp
   ·exact List.mem_cons_of_mem _ (CB r y x h)
theorem FX {α : Type} [DecidableEq α] : ∀ (r : List α) (p x : α),x ∈ r → x = p ∨ x ∈ nbF p r
 | [],_,_,h=>by cases h
 | y :: r,p,x,h=>by
  unfold nbF
  rcases List.mem_cons.1 h with rfl | h
  ·split
   ·rename_i e; exact .inl e
   ·exact .inr (by simp)
  ·rcases FX r y x h with rfl | h2
   ·split
    ·rename_i e; exact .inl e
    ·exact .inr (by simp)
   ·split
    ·exact .inr h2
    ·exact .inr (List.mem_cons_of_mem _ h2)
theorem JC : ∀ (r : List ByteArray) (p : ByteArray),(p :: r).Pairwise leB → (p :: nbF p r).Pairwise fun a b=>cB a b < 0
 | [],p,_=>by simp [nbF]
 | y :: r,p,h=>by
  rw [List.pairwise_cons] at h
  have hy:=h.1 y (by simp)
  have ih:=JC r y h.2
  unfold nbF
  by_cases e : y = p
  ·rw [if_pos e]
   rw [e] at ih ⊢
   exact ih
  ·rw [if_neg e]
   have h1 : cB p y < 0:=by
    rcases hy with h | h
    ·exact h
    ·exact absurd h.symm e
   refine List.pairwise_cons.2 ⟨fun z hz=>?_,ih⟩
   rcases List.mem_cons.1 hz with rfl | hz
   ·exact h1
   ·rw [List.pairwise_cons] at ih
    exact Uh h1 (ih.1 z hz)
theorem cb_le : ∀ (a b : List UInt8),a ≤ b → Lib.compareBytes a b ≤ 0
 | [],[],_=>by simp [Lib.compareBytes]
 | [],_ :: _,_=>by simp [Lib.compareBytes]
 | x :: a,[],h=>by
  exact absurd h (by simp)
 | x :: a,y :: b,h=>by
  rw [Lib.compareBytes]
  rw [List.cons_le_cons_iff] at h
  rcases h with h | ⟨rfl,h⟩
  ·rw [if_pos h]; omega
  ·rw [if_neg (UInt8.lt_irrefl _),if_neg (UInt8.lt_irrefl _)]
   exact cb_le a b h
theorem Wt (l : List ByteArray) : (Se l).Pairwise leB ∧ ∀ x,x ∈ Se l ↔ x ∈ l:=by
 unfold Se
 constructor
 ·rw [List.pairwise_map]
  refine (List.pairwise_mergeSort (le:=fun x y=>decide (x ≤ y)) (fun a b c h1 h2=>by
   rw [decide_eq_true_eq] at *; exact List.le_trans h1 h2) (fun a b=>by
   rcases List.le_total a b with h | h <;> simp [h]) _).imp ?_
  intro a b h
  have:=cb_le a b (of_decide_eq_true h)
  have e : cB (⟨a.toArray⟩ : ByteArray) ⟨b.toArray⟩ = Lib.compareBytes a b:=rfl
  rcases Int.lt_or_eq_of_le this with h1 | h1
  ·exact .inl (by rw [e]; exact h1)
  ·exact .inr (Wr (by rw [e]; exact h1))
 ·intro x
  rw [List.mem_map]
  constructor
  ·rintro ⟨a,ha,rfl⟩
   rw [List.mem_mergeSort,List.mem_map] at ha
   obtain ⟨y,hy,rfl⟩:=ha
   exact hy
  ·intro hx
   exact ⟨x.data.toList,by rw [List.mem_mergeSort]; exact List.mem_map.2 ⟨x,hx,rfl⟩,rfl⟩
def Vr (l : List ByteArray) : List ByteArray:=nb (Se l)
theorem keys_up (l : List ByteArray) : (Vr l).Pairwise (fun a b=>cB a b < 0):=by
 unfold Vr
 have h:=(Wt l).1
 cases e : Se l with
 | nil=>exact List.Pairwise.nil
 | cons p r=>rw [e] at h; exact JC r p h
theorem DJ (l : List ByteArray) (x : ByteArray) : x ∈ Vr l ↔ x ∈ l:=by
 rw [← (Wt l).2 x]
 unfold Vr
 cases e : Se l with
 | nil=>exact Iff.rfl
 | cons p r =>
  show x ∈ p :: nbF p r ↔ x ∈ p :: r
  constructor
  ·intro h
   rcases List.mem_cons.1 h with rfl | h
   ·simp
   ·exact List.mem_cons_of_mem _ (CB r p x h)
  ·intro h
   rcases List.mem_cons.1 h with rfl | h
   ·simp
   ·rcases FX r p x h with rfl | h
    ·simp
    ·exact List.mem_cons_of_mem _ h
theorem CC {ν : Type} (d : ν) : ∀ (m : List (ByteArray × ν)),(m.map (·.1)).Nodup → ∀ k v,(k,v) ∈ m ↔ k ∈ m.map (·.1) ∧ Ff m k d = v
 | [],_,k,v=>by simp
 | p :: m,h,k,v=>by
  rw [List.map_cons,List.nodup_cons] at h
  have idx : ∀ (m : List (ByteArray × ν)) (i j : Nat),(Iy m k i).map (·.2) = (Iy m k j).map (·.2):=by
   intro m
   induction m with
   | nil=>intros; rfl
   | cons q m ih =>
    intro i j
    obtain ⟨a,b⟩:=q
    unfold Iy
    split
    ·rfl
    ·exact ih _ _
  obtain ⟨a,b⟩:=p
  have hg : Ff ((a,b) :: m) k d = if k = a then b else Ff m k d:=by
   unfold Ff Ps
   rw [Iy]
   split
   ·rfl
   ·rw [idx m (0 + 1) 0]
  rw [hg]
  have ih:=CC d m h.2 k v
  by_cases e : k = a
  ·subst e
   rw [if_pos rfl]
   constructor
   ·intro hm
    rcases List.mem_cons.1 hm with hm | hm
    ·injection hm with _ e2; exact ⟨by simp,e2.symm⟩
    ·exact (h.1 (List.mem_map.2 ⟨_,hm,rfl⟩)).elim
   ·rintro ⟨_,rfl⟩; simp
  ·rw [if_neg e]
   constructor
   ·intro hm
    rcases List.mem_cons.1 hm with hm | hm
    ·injection hm with e1 _; exact (e e1).elim
    ·exact ⟨List.mem_cons_of_mem _ (ih.1 hm).1,(ih.1 hm).2⟩
   ·rintro ⟨h1,h2⟩
    rcases List.mem_cons.1 h1 with h1 | h1
    ·exact (e h1).elim
    ·exact List.mem_cons_of_mem _ (ih.2 ⟨h1,h2⟩)
theorem DZ {m : List (ByteArray × Cu)} {K : List ByteArray} (f : ByteArray → Cu) (hnd : (m.map (·.1)).Nodup) (hl : m.length ≤ 12) (hK : K.Pairwise (fun a b=>cB a b < 0)) (hmem : ∀ k v,(k,v) ∈ m ↔ k ∈ K ∧ v = f k) :
  Kr m = some (K.map fun k=>Cv.mk k (f k)):=by
 have hlt : ∀ x y z : Cv,ltG x y = true → ltG y z = true → ltG x z = true:=fun x y z h1 h2=>by
  rw [Tc,decide_eq_true_eq] at *; exact Uh h1 h2
 have hirr : ∀ x : Cv,ltG x x = false:=fun x=>by rw [Tc,Ut]; rfl
 have htot : ∀ l : List Cv,(l.map (·.Key)).Nodup → l.Pairwise fun a b=>ltG b a = false → ltG a b = true:=fun l hl=>by
  refine (List.pairwise_map.1 hl).imp fun {a b} hne hb=>?_
  rw [Tc,decide_eq_false_iff_not] at hb
  rw [Tc,decide_eq_true_eq]
  have h0 : cB a.Key b.Key ≠ 0:=fun e=>hne (Wr e)
  have:=Yn a.Key b.Key
  omega
 have hkeys : ∀ p : List (ByteArray × Cu),(p.map gm).map (·.Key) = p.map (·.1):=fun p=>by rw [List.map_map]; rfl
 unfold Kr
 simp only [He]
 refine Xy fun p hp=>?_
 have hpl : p.length = m.length:=hp.length_eq
 rw [CA _ p [] (by simp; omega),List.nil_append,DI _ (by rw [List.length_map]; omega),Option.bind_some]
 have hnd' : ((p.map gm).map (·.Key)).Nodup:=by rw [hkeys,(hp.map (·.1)).nodup_iff]; exact hnd
 rw [CW hirr hlt (p.map gm) (K.map fun k=>Cv.mk k (f k)) (htot _ hnd') (by
  rw [List.pairwise_map]
  exact hK.imp fun h=>by rw [Tc]; exact decide_eq_true h) fun x=>by
  rw [(hp.map gm).mem_iff,List.mem_map,List.mem_map]
  constructor
  ·rintro ⟨⟨k,v⟩,h,rfl⟩
   obtain ⟨h1,rfl⟩:=(hmem k v).1 h
   exact ⟨k,h1,rfl⟩
  ·rintro ⟨k,h,rfl⟩
   exact ⟨(k,f k),(hmem k _).2 ⟨h,rfl⟩,rfl⟩]
end Go.Proofs.YtfdcgchgkojfiaaGreatDoor
namespace Go.Proofs.YtfdcgchgkojfiaaGreatDoor
open Go
section weak
variable {α : Type} {lt : α → α → Bool}
theorem AP (ha : ∀ x y,lt x y = true → lt y x = false) (hn : ∀ x y z,lt x y = false → lt y z = false → lt x z = false) (x : α) : ∀ rp : List α,rp.Pairwise (fun a b=>lt a b = false) → (Of lt x rp).Pairwise fun a b=>lt a b = false
 | [],_=>by simp [Of]
 | y :: r,h=>by
  rw [List.pairwise_cons] at h
  unfold Of
  cases hxy : lt x y with
  | true =>
   rw [if_pos rfl]
   refine List.pairwise_cons.2 ⟨fun z hz=>?_,AP ha hn x r h.2⟩
   rcases (Sd lt x z r).1 hz with rfl | hz
   ·exact ha _ _ hxy
   ·exact h.1 z hz
  | false =>
   rw [if_neg (by simp)]
   refine List.pairwise_cons.2 ⟨fun z hz=>?_,List.pairwise_cons.2 h⟩
   rcases List.mem_cons.1 hz with rfl | hz
   ·exact hxy
   ·exact hn _ _ _ hxy (h.1 z hz)
theorem Zh (ha : ∀ x y,lt x y = true → lt y x = false) (hn : ∀ x y z,lt x y = false → lt y z = false → lt x z = false) : ∀ l rp : List α,rp.Pairwise (fun a b=>lt a b = false) → (Qb lt l rp).Pairwise fun a b=>lt a b = false
 | [],_,h=>h
 | x :: l,rp,h=>Zh ha hn l _ (AP ha hn x rp h)
theorem EA (ha : ∀ x y,lt x y = true → lt y x = false) (hn : ∀ x y z,lt x y = false → lt y z = false → lt x z = false) (l : List α) : (Lx lt l).Pairwise fun a b=>lt b a = false:=by
 unfold Lx
 rw [List.pairwise_reverse]
 exact Zh ha hn l [] List.Pairwise.nil
end weak
def gtI (x y : Int) : Bool:=decide (y < x)
theorem Xq (l : List Int) : (Lx gtI l).Pairwise fun a b=>b ≤ a :=
 (EA (lt:=gtI) (fun x y h=>by unfold gtI at *; simp at *; omega) (fun x y z h h'=>by unfold gtI at *; simp at *; omega) l).imp fun h=>by unfold gtI at h; simpa using h
theorem GX {A B : List Int} (hA : A.Pairwise fun a b=>b ≤ a) (hB : B.Pairwise fun a b=>b ≤ a) (h : A.Perm B) : A = B :=
 List.Perm.eq_of_pairwise (le:=fun a b : Int=>b ≤ a) (fun a b _ _ h1 h2=>by omega) hA hB h
theorem DK {l l' : List Int} (h : l.Perm l') : Lx gtI l = Lx gtI l' :=
 GX (Xq l) (Xq l') ((Rc gtI l).trans (h.trans (Rc gtI l').symm))
def Zi (many : Int) (l : List Int) : Int:=((Lx gtI l).take many.toNat).sum
theorem GY (many : Int) {l l' : List Int} (h : l.Perm l') : Zi many l = Zi many l':=by unfold Zi; rw [DK h]
def Vs (v : Int) : Prop:=0 ≤ v ∧ v ≤ 1000000000
theorem cut_top (r : List Int) {many : Int} (h1 : 1 ≤ many) : Vw 0 (Vv many (r.length : Int)) r.length = true ∧ cut r 0 (Vv many (r.length : Int)) = r.take many.toNat:=by
 unfold Vv
 split
 ·rename_i h
  refine ⟨Pr.2 (by omega),?_⟩
  unfold cut
  rw [show (0 : Int).toNat = 0 from rfl,List.drop_zero,Int.toNat_natCast,List.take_length,List.take_of_length_le (by omega)]
 ·rename_i h
  refine ⟨Pr.2 (by omega),?_⟩
  unfold cut
  rw [show (0 : Int).toNat = 0 from rfl,List.drop_zero]
def ltD (x y : Int) : Bool:=decide (Jj x y < 0)
theorem GZ (l : List Int) (hl : l.length ≤ 12) : Eu l 0 (l.length : Int) = some (Lx ltD l):=by
 unfold Eu
 simp only [Wo]
 have hins : ∀ (k : List Int → Option (List Int)) (rp : List Int) (x : Int) (post : List Int),((rp ++ x :: post).length : Int) = (l.length : Int) → (∀ y,y ∈ rp ∨ y = x ∨ y ∈ post → y ∈ (rp ++ x :: post)) →
   Df 0 k (((rp.length : Int) - 0).toNat + 2) (rp.reverse ++ x :: post) (rp.length : Int) = k ((Of ltD x rp).reverse ++ post):=by
  intro k rp x post h1 _
  exact FG (fun x y k=>k (ltD x y)) ltD k (Df 0 k) (fun _ _ _=>rfl) rp x post _ (by omega) (by simp at h1; omega) fun y _ k'=>rfl
 cases l with
 | nil=>rfl
 | cons x l =>
  have hw : W (0 + 1) = (([x] : List Int).length : Int):=rfl
  rw [hw]
  exact Ym ltD (fun x=>some x) (fun k x i=>Df 0 k ((i - 0).toNat + 2) x i) (Di ((x :: l).length : Int) 0 fun x=>some x) ((x :: l).length : Int) (fun _ _ _=>rfl)
   (fun k rp x post h1 h2=>hins k rp x post h1 h2) l [x] _ (by simp only [List.length_cons,List.length_nil]; omega) (by simp only [List.length_cons,List.length_nil]; omega) (by simp only [List.length_cons,List.length_nil] at hl ⊢; omega)
theorem JD (l : List Int) (hl : l.length ≤ 12) (hv : ∀ v ∈ l,Vs v) : Fu l = some (Lx gtI l):=by
 have he : Lx ltD l = Lx gtI l:=Xo l fun x hx y hy=>by
  have h1:=hv x hx
  have h2:=hv y hy
  unfold Vs at h1 h2
  unfold ltD gtI Jj
  rw [Mw (by omega) (by omega)]
  rcases Int.lt_or_le y x with h | h
  ·rw [decide_eq_true h,decide_eq_true (by omega)]
  ·rw [decide_eq_false (by omega),decide_eq_false (by omega)]
 unfold Fu
 obtain ⟨r,hr⟩:=Option.isSome_iff_exists.1 (IQ ⟨l.length,by omega⟩)
 simp only at hr
 rw [hr]
 simp only [Option.bind_some]
 unfold Gt
 rw [show (4611686018427387904 : Nat) = 4611686018427387903 + 1 from rfl,Dv,Mw (by omega) (by omega),if_pos (decide_eq_true (by omega)),GZ l hl,he]
 rfl
theorem JE (j : Int → Option (List (ByteArray × Cu))) : ∀ (ys : List Int) (i : Nat) (x : Int),(∀ v ∈ ys,Vs v) → 0 ≤ x → x + 1000000000 * (ys.length : Int) ≤ 1000000000000000 → Hn j ys i x = j (x + ys.sum)
 | [],i,x,_,_,_=>by rw [Hn]; simp
 | y :: ys,i,x,h,h0,h1=>by
  have hy:=h y (by simp)
  unfold Vs at hy
  simp only [List.length_cons] at h1
  rw [Hn,Mw (by omega) (by omega),JE j ys (i + 1) (x + y) (fun v hv=>h v (by simp [hv])) (by omega) (by omega),List.sum_cons]
  congr 1
  omega
theorem round3 (many : Int) (h1 : 1 ≤ many) (x : List (ByteArray × Cu)) (k : ByteArray) (l : List Int) (hl : l.length ≤ 12) (hv : ∀ v ∈ l,Vs v) :
  (Option.bind (Fu l) (fun r=>Chk (Vw 0 (Vv many (r.length : Int)) r.length) (Fh (fun (s : Int)=>some (Es x k (Cu.mk s 1))) (fun j5=>Hn j5 (cut r 0 (Vv many (r.length : Int))) 0 0)))) = some (Es x k (Cu.mk (Zi many l) 1)):=by
 obtain ⟨c1,c2⟩:=cut_top (Lx gtI l) h1
 have hlen:=Vp gtI l
 rw [JD l hl hv,Option.bind_some,BV c1,c2,Wo,JE _ _ 0 0 (fun v hv'=>hv v ((Sf gtI l v).1 (List.mem_of_mem_take hv'))) (by omega) (by rw [List.length_take]; omega)]
 simp [Zi]
theorem FY (many : Int) (h1 : 1 ≤ many) (j : List (ByteArray × Cu) → Option (List Cv × Int)) : ∀ (p : List (ByteArray × List Int)) (x : List (ByteArray × Cu)),(∀ e ∈ p,e.2.length ≤ 12 ∧ ∀ v ∈ e.2,Vs v) →
  Ho many j p x = j (p.foldl (fun x e=>Es x e.1 (Cu.mk (Zi many e.2) 1)) x)
 | [],x,_=>by rw [Ho]; rfl
 | e :: p,x,h=>by
  rw [Ho,round3 many h1 x e.1 e.2 (h e (by simp)).1 (h e (by simp)).2,Option.bind_some,FY many h1 j p _ fun z hz=>h z (by simp [hz])]
  rfl
theorem AQ (F : List Int → Cu) : ∀ (p : List (ByteArray × List Int)) (x : List (ByteArray × Cu)),(x.map (·.1)).Nodup → (p.map (·.1)).Nodup → 
  ((p.foldl (fun x e=>Es x e.1 (F e.2)) x).map (·.1)).Nodup ∧ (∀ k,k ∈ (p.foldl (fun x e=>Es x e.1 (F e.2)) x).map (·.1) ↔ k ∈ p.map (·.1) ∨ k ∈ x.map (·.1)) ∧
  (∀ e ∈ p,Ff (p.foldl (fun x e=>Es x e.1 (F e.2)) x) e.1 (Cu.mk 0 0) = F e.2) ∧ ∀ k,k ∉ p.map (·.1) → Ff (p.foldl (fun x e=>Es x e.1 (F e.2)) x) k (Cu.mk 0 0) = Ff x k (Cu.mk 0 0)
 | [],x,hx,_=>⟨hx,fun k=>(by simp),fun e he=>(by cases he),fun k _=>rfl⟩
 | e :: p,x,hx,hp=>by
  rw [List.map_cons,List.nodup_cons] at hp
  obtain ⟨a1,a2⟩:=Qs e.1 (F e.2) x hx
  obtain ⟨b1,b2,b3,b4⟩:=AQ F p (Es x e.1 (F e.2)) a1 hp.2
  rw [List.foldl_cons]
  refine ⟨b1,fun k=>?_,fun z hz=>?_,fun k hk=>?_⟩
  ·rw [b2 k,a2 k,List.map_cons,List.mem_cons]
   constructor
   ·rintro (h | h | h)
    ·exact .inl (.inr h)
    ·exact .inl (.inl h)
    ·exact .inr h
   ·rintro ((h | h) | h)
    ·exact .inr (.inl h)
    ·exact .inl h
    ·exact .inr (.inr h)
  ·rcases List.mem_cons.1 hz with rfl | hz
   ·rw [b4 _ hp.1,Ur,if_pos rfl]
   ·exact b3 z hz
  ·rw [List.map_cons,List.mem_cons] at hk
   rw [b4 k fun h=>hk (.inr h),Ur,if_neg fun h=>hk (.inl h)]
def Li (w : ByteArray) : List (Ct × Int) → List (ByteArray × Int)
 | []=>[]
 | e :: m=>if e.1.who_ = w then (e.1.race_,e.2) :: Li w m else Li w m
theorem AR (race who w : ByteArray) (v : Int) : ∀ m : List (Ct × Int),Li w (Es m (Ct.mk race who) v) = if who = w then Es (Li w m) race v else Li w m
 | []=>by
  by_cases h : who = w <;> simp [Es,Li,h]
 | ((Ct.mk a b),u) :: m=>by
  have ih:=AR race who w v m
  by_cases hk : Ct.mk race who = Ct.mk a b
  ·rw [Es,if_pos hk]
   injection hk with h1 h2
   subst h1 h2
   by_cases h : who = w <;> simp [Es,Li,h]
  ·rw [Es,if_neg hk]
   by_cases h : who = w
   ·rw [if_pos h] at ih ⊢
    by_cases h2 : b = w
    ·have h3 : race ≠ a:=fun e=>hk (by rw [e,h,h2])
     rw [Li,if_pos h2,ih,Li,if_pos h2,Es,if_neg h3]
    ·rw [Li,if_neg h2,ih,Li,if_neg h2]
   ·by_cases h2 : b = w
    ·simp only [Li,h2,if_true,ih,h,if_false]
    ·simp only [Li,h2,if_false,ih,h]
theorem AS (race w : ByteArray) : ∀ m : List (Ct × Int),Ps m (Ct.mk race w) = Ps (Li w m) race
 | []=>rfl
 | ((Ct.mk a b),u) :: m=>by
  have ih:=AS race w m
  have c1 : ∀ (κ : Type) [DecidableEq κ] (q : κ) (u : Int) (m : List (κ × Int)) (key : κ),Ps ((q,u) :: m) key = if key = q then some u else Ps m key:=by
   intro κ _ q u m key
   have idx : ∀ (m : List (κ × Int)) (i j : Nat),(Iy m key i).map (·.2) = (Iy m key j).map (·.2):=by
    intro m
    induction m with
    | nil=>intros; rfl
    | cons q m ih=>intro i j; obtain ⟨a,b⟩:=q; unfold Iy; split; rfl; exact ih _ _
   unfold Ps
   rw [Iy]
   split
   ·rfl
   ·rw [idx m (0 + 1) 0]
  rw [c1]
  by_cases h2 : b = w
  ·rw [Li,if_pos h2,c1,ih]
   subst h2
   by_cases h : race = a
   ·rw [if_pos h,if_pos (by rw [h])]
   ·rw [if_neg h,if_neg fun e=>h (by injection e)]
  ·rw [Li,if_neg h2,ih,if_neg fun e=>h2 (by injection e with _ e2; exact e2.symm)]
theorem EB (w : ByteArray) {p m : List (Ct × Int)} (h : p.Perm m) : (Li w p).Perm (Li w m):=by
 have e : ∀ m : List (Ct × Int),Li w m = (m.filter fun e=>decide (e.1.who_ = w)).map fun e=>(e.1.race_,e.2):=by
  intro m
  induction m with
  | nil=>rfl
  | cons x m ih=>rw [Li,ih]; by_cases h : x.1.who_ = w <;> simp [h]
 rw [e,e]
 exact (h.filter _).map _
theorem Xh {w : ByteArray} {x : ByteArray × Int} : ∀ {m : List (Ct × Int)},x ∈ Li w m → (Ct.mk x.1 w,x.2) ∈ m
 | [],h=>by cases h
 | e :: m,h=>by
  rw [Li] at h
  split at h
  ·rename_i hw
   rcases List.mem_cons.1 h with rfl | h
   ·subst hw; exact List.mem_cons_self ..
   ·exact List.mem_cons_of_mem _ (Xh h)
  ·exact List.mem_cons_of_mem _ (Xh h)
theorem AU (w : ByteArray) : ∀ m : List (Ct × Int),(Li w m).length ≤ m.length
 | []=>Nat.le_refl _
 | e :: m=>by
  have:=AU w m
  rw [Li]
  split <;> simp only [List.length_cons] <;> omega
section fold
variable (P : Dn → Bool) (V : Dn → Int)
def Zj (w : ByteArray) : List Dn → List (ByteArray × Int) → List (ByteArray × Int)
 | [],m=>m
 | y :: ys,m=>Zj w ys (if y.Who = w ∧ P y = true then Es m y.Race (Vt (Ff m y.Race 0) (V y)) else m)
theorem DL {κ ν : Type} [DecidableEq κ] (k : κ) (v : ν) : ∀ m : List (κ × ν),(Es m k v).length ≤ m.length + 1
 | []=>by simp [Es]
 | (q,u) :: m=>by
  have:=DL k v m
  rw [Es]
  split <;> simp only [List.length_cons] <;> omega
theorem Zk {κ ν : Type} [DecidableEq κ] (k : κ) (v : ν) (e : κ × ν) : ∀ m : List (κ × ν),e ∈ Es m k v → e = (k,v) ∨ e ∈ m
 | [],h=>by simpa [Es] using h
 | (q,u) :: m,h=>by
  rw [Es] at h
  split at h
  ·rcases List.mem_cons.1 h with h | h
   ·exact .inl h
   ·exact .inr (List.mem_cons_of_mem _ h)
  ·rcases List.mem_cons.1 h with h | h
   ·exact .inr (by rw [h]; exact List.mem_cons_self ..)
   ·rcases Zk k v e m h with h | h
    ·exact .inl h
    ·exact .inr (List.mem_cons_of_mem _ h)
theorem JF {κ : Type} [DecidableEq κ] (Q : Int → Prop) (h0 : Q 0) (k : κ) (m : List (κ × Int)) (h : ∀ e ∈ m,Q e.2) : Q (Ff m k 0):=by
 have hf : ∀ (m : List (κ × Int)) (i : Nat),(∀ e ∈ m,Q e.2) → Q (((Iy m k i).map (·.2)).getD 0):=by
  intro m
  induction m with
  | nil=>intro i _; exact h0
  | cons q m ih =>
   intro i hq
   obtain ⟨a,b⟩:=q
   rw [Iy]
   split
   ·exact hq (a,b) (List.mem_cons_self ..)
   ·exact ih _ fun e he=>hq e (List.mem_cons_of_mem _ he)
 exact hf m 0 h
theorem JG {a b : Int} (ha : Vs a) (hb : Vs b) : Vs (Vt a b):=by
 unfold Vt; split <;> assumption
structure Inv1 (x1 : List (Ct × Int)) (x2 : List (ByteArray × List Int)) : Prop where
 val : ∀ e ∈ x1,Vs e.2
 who : ∀ e ∈ x1,e.1.who_ ∈ x2.map (·.1)
 nd : (x2.map (·.1)).Nodup
 nil : ∀ k,Ff x2 k [] = []
theorem CD (l : List Jr) (j : List (Ct × Int) → List (ByteArray × List Int) → Option (List Cv × Int)) (hP : ∀ y,P y = ((decide (0 < Fy l y.Race)) && decide (0 < y.Time))) : ∀ (ys : List Dn) (i : Nat) (x1 : List (Ct × Int)) (x2 : List (ByteArray × List Int)),
  (∀ y ∈ ys,P y = true → Lg (Fy l y.Race) y.Time = some (V y) ∧ Vs (V y)) → Inv1 x1 x2 →
  ∃ z1 z2,Ig l j ys i x1 x2 = j z1 z2 ∧ Inv1 z1 z2 ∧ (∀ w,Li w z1 = Zj P V w ys (Li w x1)) ∧ (∀ k,k ∈ z2.map (·.1) ↔ k ∈ ys.map (·.Who) ∨ k ∈ x2.map (·.1)) ∧ z1.length ≤ x1.length + ys.length
 | [],i,x1,x2,_,h=>⟨x1,x2,by rw [Ig],h,fun _=>rfl,fun k=>by simp,by simp⟩
 | y :: ys,i,x1,x2,hy,h=>by
  obtain ⟨n1,n2⟩:=Qs y.Who ([] : List Int) x2 h.nd
  have hI : Inv1 x1 (Es x2 y.Who []):=⟨h.val,fun e he=>(n2 _).2 (.inr (h.who e he)),n1,fun k=>by rw [Ur]; split; rfl; exact h.nil k⟩
  have hk : ∀ (z2 : List (ByteArray × List Int)),(∀ k,k ∈ z2.map (·.1) ↔ k ∈ ys.map (·.Who) ∨ k ∈ (Es x2 y.Who ([] : List Int)).map (·.1)) → ∀ k,k ∈ z2.map (·.1) ↔ k ∈ (y :: ys).map (·.Who) ∨ k ∈ x2.map (·.1):=fun z2 hz k=>by
   rw [hz k,n2 k,List.map_cons,List.mem_cons]
   constructor
   ·rintro (h | h | h)
    ·exact .inl (.inr h)
    ·exact .inl (.inl h)
    ·exact .inr h
   ·rintro ((h | h) | h)
    ·exact .inr (.inl h)
    ·exact .inl h
    ·exact .inr (.inr h)
  rw [Ig,Wo]
  have hPy:=hP y
  cases hp : P y with
  | true =>
   obtain ⟨e1,v1⟩:=hy y (by simp) hp
   rw [hp] at hPy
   rw [if_pos hPy.symm,e1,Option.bind_some]
   obtain ⟨z1,z2,e,g1,g2,g3,g4⟩:=CD l j hP ys (i + 1) (Es x1 (Ct.mk y.Race y.Who) (Vt (Ff x1 (Ct.mk y.Race y.Who) 0) (V y))) (Es x2 y.Who []) (fun z hz=>hy z (by simp [hz]))
    ⟨fun e he=>by
     rcases Zk _ _ e x1 he with rfl | he
     ·exact JG (JF Vs ⟨by omega,by omega⟩ _ x1 h.val) v1
     ·exact h.val e he,fun e he=>by
     rcases Zk _ _ e x1 he with rfl | he
     ·exact (n2 _).2 (.inl rfl)
     ·exact (n2 _).2 (.inr (h.who e he)),n1,hI.nil⟩
   refine ⟨z1,z2,e,g1,fun w=>?_,hk z2 g3,?_⟩
   ·rw [g2 w,AR,Zj]
    have hgt : Ff x1 (Ct.mk y.Race y.Who) 0 = Ff (Li y.Who x1) y.Race 0:=by unfold Ff; rw [AS]
    by_cases hw : y.Who = w
    ·subst hw
     rw [if_pos rfl,if_pos ⟨rfl,hp⟩,hgt]
    ·rw [if_neg hw,if_neg fun e=>hw e.1]
   ·have:=DL (Ct.mk y.Race y.Who) (Vt (Ff x1 (Ct.mk y.Race y.Who) 0) (V y)) x1
    simp only [List.length_cons]; omega
  | false =>
   rw [hp] at hPy
   rw [if_neg (by rw [← hPy]; simp)]
   obtain ⟨z1,z2,e,g1,g2,g3,g4⟩:=CD l j hP ys (i + 1) x1 (Es x2 y.Who []) (fun z hz=>hy z (by simp [hz])) hI
   refine ⟨z1,z2,e,g1,fun w=>?_,hk z2 g3,?_⟩
   ·rw [g2 w,Zj,if_neg fun e=>by rw [hp] at e; cases e.2]
   ·simp only [List.length_cons]; omega
theorem FZ (j : List (ByteArray × List Int) → Option (List Cv × Int)) : ∀ (p : List (Ct × Int)) (x : List (ByteArray × List Int)) (n : Nat),n + p.length ≤ 1000 → (∀ k,(Ff x k []).length ≤ n) → (x.map (·.1)).Nodup → (∀ e ∈ p,e.1.who_ ∈ x.map (·.1)) →
  ∃ z,Ih j p x = j z ∧ (z.map (·.1)).Nodup ∧ (∀ k,k ∈ z.map (·.1) ↔ k ∈ x.map (·.1)) ∧ ∀ k,Ff z k [] = Ff x k [] ++ (Li k p).map (·.2)
 | [],x,n,_,_,hn,_=>⟨x,by rw [Ih],hn,fun _=>Iff.rfl,fun k=>by simp [Li]⟩
 | e :: p,x,n,h1,h2,hn,hw=>by
  simp only [List.length_cons] at h1
  have hl:=h2 e.1.who_
  obtain ⟨a1,a2⟩:=Qs e.1.who_ (Ff x e.1.who_ [] ++ [e.2]) x hn
  have hkk : ∀ k,k ∈ (Es x e.1.who_ (Ff x e.1.who_ [] ++ [e.2])).map (·.1) ↔ k ∈ x.map (·.1):=fun k=>by
   rw [a2 k]
   exact ⟨fun h=>h.elim (fun h=>by rw [h]; exact hw e (by simp)) id,.inr⟩
  obtain ⟨z,e1,g1,g2,g3⟩:=FZ j p (Es x e.1.who_ (Ff x e.1.who_ [] ++ [e.2])) (n + 1) (by omega) (fun k=>by
   rw [Ur]; split
   ·simp; omega
   ·have:=h2 k; omega) a1 (fun z hz=>(hkk _).2 (hw z (by simp [hz])))
  refine ⟨z,?_,g1,fun k=>(g2 k).trans (hkk k),fun k=>?_⟩
  ·rw [Ih,BV (by unfold Qt; simp; omega),Option.bind_some,e1]
  ·rw [g3 k,Ur,Li]
   by_cases h : k = e.1.who_
   ·subst h
    simp
   ·rw [if_neg h,if_neg fun e=>h e.symm]
theorem HA (l : List Jr) (r : List Dn) (many : Int) (hB : Lk l = some 0) (hR : Kh r = some 0) (h1 : 1 ≤ many) (h2 : many ≤ 100) (hlen : r.length ≤ 12)
  (hP : ∀ y,P y = ((decide (0 < Fy l y.Race)) && decide (0 < y.Time))) (hV : ∀ y ∈ r,P y = true → Lg (Fy l y.Race) y.Time = some (V y) ∧ Vs (V y)) :
  Mo l r many = some ((Vr (r.map (·.Who))).map fun k=>Cv.mk k (Cu.mk (Zi many ((Zj P V k r []).map (·.2))) 1),0):=by
 have hW : Dd many 1 100 = true:=by unfold Dd; simp; omega
 unfold Mo
 rw [hB,Option.bind_some,if_neg (by simp),hR,Option.bind_some,if_neg (by simp),hW,if_neg (by simp)]
 simp only [He]
 obtain ⟨x1,x2,e1,hI,hF,hK,hx1⟩:=CD P V l (fun x1 x2=>Zl x1 fun p=>Ih (fun x3=>Zl x3 fun p=>Ho many (fun x4=>Option.bind (Kr x4) fun r3=>some (r3,0)) p []) p x2) hP r 0 [] [] hV ⟨fun e he=>(by cases he),fun e he=>(by cases he),(by simp),fun _=>rfl⟩
 refine e1.trans ?_
 refine Xy fun p hp=>?_
 have hpl : p.length ≤ 12:=by rw [hp.length_eq]; simp at hx1; omega
 obtain ⟨x3,e2,n3,k3,g3⟩:=FZ (fun x3=>Zl x3 fun p=>Ho many (fun x4=>Option.bind (Kr x4) fun r3=>some (r3,0)) p []) p x2 0 (by omega) (fun k=>by rw [hI.nil k]; simp) hI.nd (fun e he=>hI.who e (hp.mem_iff.1 he))
 refine e2.trans ?_
 refine Xy fun q hq=>?_
 have hqn : (q.map (·.1)).Nodup:=((hq.map (·.1)).nodup_iff).2 n3
 have hval : ∀ k,∀ v ∈ (Li k p).map (·.2),Vs v:=fun k v hv=>by
  obtain ⟨e,he,rfl⟩:=List.mem_map.1 hv
  exact hI.val _ (hp.mem_iff.1 (Xh he))
 have hrow : ∀ e ∈ q,e.2 = (Li e.1 p).map (·.2):=fun e he=>by
  have h3:=((CC ([] : List Int) x3 n3 e.1 e.2).1 (hq.mem_iff.1 he)).2
  rw [← h3,g3 e.1,hI.nil]; rfl
 rw [FY many h1 _ q [] (fun e he=>by
  rw [hrow e he]
  exact ⟨by rw [List.length_map]; have:=AU e.1 p; omega,hval e.1⟩)]
 obtain ⟨b1,b2,b3,_⟩:=AQ (fun l=>Cu.mk (Zi many l) 1) q [] (by simp) hqn
 have hkeys : ∀ k,k ∈ q.map (·.1) ↔ k ∈ Vr (r.map (·.Who)):=fun k=>by
  rw [(hq.map (·.1)).mem_iff,k3 k,hK k,DJ]; simp
 have hfew : (q.map (·.1)).length ≤ 12:=by
  have:=Uu (q.map (·.1)) (r.map (·.Who)) hqn fun k hk=>(DJ _ k).1 ((hkeys k).1 hk)
  simp only [List.length_map] at this ⊢
  omega
 have hval2 : ∀ k ∈ q.map (·.1),Ff (q.foldl (fun x e=>Es x e.1 (Cu.mk (Zi many e.2) 1)) []) k (Cu.mk 0 0) = Cu.mk (Zi many ((Zj P V k r []).map (·.2))) 1:=fun k hk=>by
  obtain ⟨e,he,rfl⟩:=List.mem_map.1 hk
  rw [b3 e he,hrow e he,GY many ((EB e.1 hp).map (·.2)),hF e.1]; rfl
 rw [DZ (K:=Vr (r.map (·.Who))) (fun k=>Cu.mk (Zi many ((Zj P V k r []).map (·.2))) 1) b1 (by
  have:=Uu _ (q.map (·.1)) b1 fun k hk=>by simpa using (b2 k).1 hk
  rw [List.length_map] at this
  omega) (keys_up _) fun k v=>by
  rw [CC (Cu.mk 0 0) _ b1 k v,b2 k,← hkeys k]
  constructor
  ·rintro ⟨h | h,rfl⟩
   ·exact ⟨h,hval2 k h⟩
   ·cases h
  ·rintro ⟨h,rfl⟩
   exact ⟨.inl h,hval2 k h⟩]
 rfl
end fold
end Go.Proofs.YtfdcgchgkojfiaaGreatDoor
namespace Go.Proofs.YtfdcgchgkojfiaaGreatDoor
open Go
def TmS (y : Dn) : Prop:=y.Race ∈ [Ke,Lz,Ma,Zm,Cy] ∧ y.Who ∈ [Kx,My,k_A]
theorem GA {L : List Int} (hL : Wp L) (r1 : Int × Int) (hr : r1.1 ≤ 8) : ∀ (m : Nat) (x1 : List Dn) (a x3 : Int),0 ≤ x3 → x3 ≤ 1000 → r1.1 - x3 < (m : Int) → 0 ≤ a → a + 12 * m ≤ 10000000 → (x1.length : Int) = x3 → x3 ≤ 8 → (∀ p ∈ x1,TmS p) →
  ∃ x b,Ip r1 L (fun x a=>some (x,a)) (m + 1) x1 a x3 = some (x,b) ∧ a ≤ b ∧ b ≤ a + 12 * m ∧ x.length ≤ 8 ∧ ∀ p ∈ x,TmS p
 | m,x1,a,x3,h1,h2,h3,h4,h5,h6,h8,h7=>by
  rw [Ip]
  by_cases hc : x3 < r1.1
  ·rw [if_pos (decide_eq_true hc)]
   cases m with
   | zero=>omega
   | succ m =>
    obtain ⟨v1,b1,e1,g1,g2,q1⟩:=Wq hL h4 (by omega) [Ke,Lz,Ma,Zm] (by simp) (by simp)
    rw [e1]; simp only [Option.bind_some]
    obtain ⟨v2,b2,e2,g3,g4,q2⟩:=Wq hL (a:=b1) (by omega) (by omega) [Kx,Kx,My] (by simp) (by simp)
    rw [e2]; simp only [Option.bind_some]
    obtain ⟨v3,b3,e3,g5,g6,_⟩:=Us hL (a:=b2) (by omega) (by omega) [0,1,2000,3000,4567,9000] (by simp) (by simp)
    rw [e3]; simp only [Option.bind_some]
    obtain ⟨f,b4,e4,g7,g8,_⟩:=BX hL (a:=b3) (by omega) (by omega) 80 (by omega)
    rw [e4]; simp only [Option.bind_some,He]
    have hw1 : v1 ∈ [Ke,Lz,Ma,Zm,Cy]:=by
     simp only [List.mem_cons,List.not_mem_nil,or_false] at q1 ⊢
     rcases q1 with h | h | h | h
     ·exact .inl h
     ·exact .inr (.inl h)
     ·exact .inr (.inr (.inl h))
     ·exact .inr (.inr (.inr (.inl h)))
    have hw2 : v2 ∈ [Kx,My,k_A]:=by
     simp only [List.mem_cons,List.not_mem_nil,or_false] at q2 ⊢
     rcases q2 with h | h | h
     ·exact .inl h
     ·exact .inl h
     ·exact .inr (.inl h)
    have step : ∀ (s t : ByteArray) (d c : Int),s ∈ [Ke,Lz,Ma,Zm,Cy] → t ∈ [Kx,My,k_A] → a ≤ c → c ≤ a + 12 → ∃ x b,(Chk (Qt x1.length) (Ip r1 L (fun x a=>some (x,a)) (m + 1) (x1 ++ [Dn.mk s t d]) c (W (x3 + 1)))) = some (x,b) ∧ a ≤ b ∧ b ≤ a + 12 * ((m + 1 : Nat) : Int) ∧ x.length ≤ 8 ∧ ∀ p ∈ x,TmS p:=by
     intro s t d c hs ht hc1 hc2
     rw [Ft (by unfold Qt; simp; omega),Mw (n:=x3 + 1) (by omega) (by omega)]
     obtain ⟨x,b,r1,r2,r3,r4,r5⟩:=GA hL r1 hr m (x1 ++ [Dn.mk s t d]) c (x3 + 1) (by omega) (by omega) (by omega) (by omega) (by omega) (by simp; omega) (by omega) (fun p hp=>by
      rcases List.mem_append.1 hp with h | h
      ·exact h7 p h
      ·rw [List.mem_singleton] at h; subst h; exact ⟨hs,ht⟩)
     exact ⟨x,b,r1,by omega,by push_cast; omega,r4,r5⟩
    cases f with
    | false=>rw [if_neg (by simp)]; exact step v1 v2 v3 b4 hw1 hw2 (by omega) (by omega)
    | true =>
     rw [if_pos rfl]
     obtain ⟨u1,c1,t1,w1,w2,z1⟩:=Wq hL (a:=b4) (by omega) (by omega) [v1,Cy] (by simp) (by simp)
     rw [t1]; simp only [Option.bind_some]
     obtain ⟨u2,c2,t2,w3,w4,z2⟩:=Wq hL (a:=c1) (by omega) (by omega) [v2,k_A] (by simp) (by simp)
     rw [t2]; simp only [Option.bind_some]
     obtain ⟨u3,c3,t3,w5,w6,_⟩:=odd_dr hL (a:=c2) (by omega) (by omega) 0 360000 (by omega) (by omega) (by omega)
     rw [t3]; simp only [Option.bind_some]
     refine step u1 u2 u3 c3 ?_ ?_ (by omega) (by omega)
     ·simp only [List.mem_cons,List.not_mem_nil,or_false] at z1
      rcases z1 with rfl | rfl
      ·exact hw1
      ·simp
     ·simp only [List.mem_cons,List.not_mem_nil,or_false] at z2
      rcases z2 with rfl | rfl
      ·exact hw2
      ·simp
  ·rw [if_neg (by simpa using hc)]
   exact ⟨x1,a,rfl,by omega,by omega,by omega,h7⟩
theorem JH {L : List Int} (hL : Wp L) {a : Int} (h0 : 0 ≤ a) (h1 : a ≤ 1000000) : Dr a 200 (fun x=>x.length ≤ 8 ∧ ∀ p ∈ x,TmS p) (Nv L a):=by
 obtain ⟨n,a1,e1,g1,g2,hn⟩:=CY hL (a:=a) h0 (by omega) 0 8 (by omega) (by omega) (by omega)
 unfold Nv
 rw [e1]
 simp only [Option.bind_some,He]
 obtain ⟨x,b,e,g3,g4,g5,g6⟩:=GA hL (n,a1) (by show n ≤ 8; omega) ((n - 0).toNat + 1) [] a1 0 (by omega) (by omega) (by show n - 0 < _; omega) (by omega) (by omega) (by simp) (by omega) (fun _ h=>by cases h)
 exact ⟨x,b,e,by omega,by omega,g5,g6⟩
theorem HB {s : ByteArray} (h : s ∈ [Ke,Lz,Ma,Zm,Cy]) : Hf s = some (!decide (s = Cy)):=by
 simp only [List.mem_cons,List.not_mem_nil,or_false] at h
 rcases h with rfl | rfl | rfl | rfl | rfl <;> decide +kernel
theorem JI {s : ByteArray} (h : s ∈ [Kx,My,k_A]) : Hf s = some (!decide (s = k_A)):=by
 simp only [List.mem_cons,List.not_mem_nil,or_false] at h
 rcases h with rfl | rfl | rfl <;> decide +kernel
def Uj : List Dn → Int
 | []=>0
 | y :: l=>if y.Race = Cy ∨ y.Who = k_A then 5 else if y.Time < 0 ∨ 360000 < y.Time then 1 else Uj l
theorem DM : ∀ (l : List Dn) (i : Nat),(∀ p ∈ l,TmS p) → Fq (some 0) l i = some (Uj l)
 | [],i,_=>by rw [Fq]; rfl
 | y :: l,i,h=>by
  obtain ⟨h1,h2⟩:=h y List.mem_cons_self
  rw [Fq,HB h1,Option.bind_some,He,JI h2,Uj]
  have ih:=DM l (i + 1) fun p hp=>h p (List.mem_cons_of_mem _ hp)
  by_cases a1 : y.Race = Cy
  ·simp [a1]
  ·by_cases a2 : y.Who = k_A
   ·simp [a1,a2]
   ·simp only [a1,a2,decide_false,Bool.not_false,Bool.not_true,Bool.false_eq_true,if_false,Option.bind_some,Bool.or_self,or_self,ih]
    unfold Dd
    by_cases a3 : 0 ≤ y.Time ∧ y.Time ≤ 360000
    ·rw [if_neg (by simp; omega),if_neg (by omega)]
    ·rw [if_pos (by simp; omega),if_pos (by omega)]
theorem checkT {l : List Dn} (hl : l.length ≤ 8) (h : ∀ p ∈ l,TmS p) : Kh l = some (Uj l):=by
 unfold Kh
 rw [if_neg (by simp; omega),He]
 exact DM l 0 h
theorem DN : ∀ {l : List Dn},Uj l = 0 → ∀ y ∈ l,0 ≤ y.Time ∧ y.Time ≤ 360000
 | [],_,_,hy=>by cases hy
 | z :: l,h,y,hy=>by
  rw [Uj] at h
  split at h
  ·cases h
  ·split at h
   ·cases h
   ·rcases List.mem_cons.1 hy with rfl | hy
    ·omega
    ·exact DN h y hy
end Go.Proofs.YtfdcgchgkojfiaaGreatDoor
namespace Go.Proofs.YtfdcgchgkojfiaaGreatDoor
open Go
theorem Vc {n : Int} (h1 : 0 ≤ n) (h2 : n ≤ 18446744073709551615) : IntKind.wrap .u64 n = n:=by
 simp [IntKind.wrap,IntKind.bits,IntKind.signed]; omega
theorem shr32 (x : Int) : Dw .u64 x 32 = x / 4294967296:=by
 have h : (2 : Int) ^ (min (32 : Int).toNat IntKind.u64.bits) = 4294967296:=by decide +kernel
 unfold Dw
 rw [h]
 exact Int.fdiv_eq_ediv_of_nonneg x (by decide)
theorem GB (x : Int) : 0 ≤ Iv .u64 x 4294967295 ∧ Iv .u64 x 4294967295 ≤ 4294967295:=by
 unfold Iv
 have h : (BitVec.ofInt IntKind.u64.bits x &&& BitVec.ofInt IntKind.u64.bits 4294967295).toNat ≤ 4294967295:=by
  rw [BitVec.toNat_and]
  exact Nat.le_trans Nat.and_le_right (by decide +kernel)
 rw [Vc (by omega) (by omega)]
 omega
theorem Wu {t k : Int} (h0 : 0 ≤ t) (h : t ≤ k) : t * t * t ≤ k * k * k:=Int.mul_le_mul (Int.mul_le_mul h h h0 (by omega)) h h0 (Int.mul_nonneg (by omega) (by omega))
theorem mul_hi {x : Int} (h0 : 0 ≤ x) (h : x ≤ 8000000000000) : Lu x 1000 = (0,x * 1000):=by
 unfold Lu
 have e1 : Dw .u64 1000 32 = 0:=by decide +kernel
 have e2 : Iv .u64 1000 4294967295 = 1000:=by decide +kernel
 obtain ⟨g1,g2⟩:=GB x
 rw [e1,e2]
 generalize Iv .u64 x 4294967295 = a at g1 g2
 simp only [shr32,Int.mul_zero]
 rw [Vc (n:=a * 1000) (by omega) (by omega),Vc (n:=x / 4294967296 * 1000) (by omega) (by omega),Vc (n:=x / 4294967296 * 1000 + a * 1000 / 4294967296) (by omega) (by omega)]
 obtain ⟨g3,g4⟩:=GB (x / 4294967296 * 1000 + a * 1000 / 4294967296)
 generalize Iv .u64 (x / 4294967296 * 1000 + a * 1000 / 4294967296) 4294967295 = c at g3 g4
 rw [Vc (n:=0) (by omega) (by omega),Vc (n:=c + 0) (by omega) (by omega),Vc (n:=0 + (x / 4294967296 * 1000 + a * 1000 / 4294967296) / 4294967296) (by omega) (by omega),Vc (n:=x * 1000) (by omega) (by omega)]
 rw [Vc (by omega) (by omega)]
 refine Prod.ext ?_ rfl
 show (0 + (x / 4294967296 * 1000 + a * 1000 / 4294967296) / 4294967296 + (c + 0) / 4294967296 : Int) = 0
 omega
def pts (b t : Int) : Int:=Vv ((b * b * b * 1000) / (t * t * t)) 1000000000
theorem HC {b t : Int} (h1 : 1 ≤ b) (h2 : b ≤ 20000) (h3 : 1 ≤ t) (h4 : t ≤ 360000) : Lg b t = some (pts b t):=by
 have b2 : 0 ≤ b * b:=Int.mul_nonneg (by omega) (by omega)
 have b2' : b * b ≤ 20000 * 20000:=Int.mul_le_mul h2 h2 (by omega) (by omega)
 have b3:=Wu (t:=0) (k:=b) (by omega) (by omega)
 have b3':=Wu (t:=b) (k:=20000) (by omega) h2
 have t2 : 0 ≤ t * t:=Int.mul_nonneg (by omega) (by omega)
 have t2' : t * t ≤ 360000 * 360000:=Int.mul_le_mul h4 h4 (by omega) (by omega)
 have t3:=Wu (t:=1) (k:=t) (by omega) (by omega)
 have t3':=Wu (t:=t) (k:=360000) (by omega) h4
 unfold Lg
 rw [Vc (n:=b) (by omega) (by omega),Vc (n:=t) (by omega) (by omega),Vc (n:=b * b) (by omega) (by omega),Vc (n:=t * t) (by omega) (by omega),Vc (n:=b * b * b) (by omega) (by omega),Vc (n:=t * t * t) (by omega) (by omega)]
 rw [mul_hi (by omega) (by omega)]
 unfold pts
 generalize b * b * b = x at b3 b3'
 generalize t * t * t = y at t3 t3'
 have hy : 1 ≤ y:=by omega
 have hx : 0 ≤ x:=by omega
 have hq0 : 0 ≤ x * 1000 / y:=Int.ediv_nonneg (by omega) (by omega)
 have hq1 : x * 1000 / y ≤ x * 1000:=Int.ediv_le_self _ (by omega)
 have hdiv : Qz 0 (x * 1000) y = some (x * 1000 / y,Int.tmod (x * 1000) y):=by
  unfold Qz
  rw [if_neg (by simp; omega),if_neg (by simp; omega),if_pos (by simp),Ft (by simp; omega),Ft (by simp; omega),Int.tdiv_eq_ediv_of_nonneg (by omega),Vc hq0 (by omega)]
 simp only [hdiv,Option.bind_some]
 rw [if_neg (by simp; omega)]
 rw [Mw (by unfold Vv; split <;> omega) (by unfold Vv; split <;> omega)]
end Go.Proofs.YtfdcgchgkojfiaaGreatDoor
namespace Go.Proofs.YtfdcgchgkojfiaaGreatDoor
open Go
theorem DO (j : List Cv → Option (List Cv)) : ∀ (ys : List Cv) (i : Nat) (x : List Cv),i + ys.length ≤ x.length → ∃ x',Fb j ys i x = j x'
 | [],i,x,_=>⟨x,by rw [Fb]⟩
 | y :: ys,i,x,h=>by
  simp only [List.length_cons] at h
  obtain ⟨x',e⟩:=DO j ys (i + 1) (x.set ((i : Int).toNat) (Cv.mk Cy (Cu.mk 0 0))) (by simp; omega)
  exact ⟨x',by rw [Fb,Ft (Jh.2 (by omega)),e]⟩
theorem EC (l : List Cv) : ∃ x',Iw l = some x':=by
 unfold Iw
 rw [Wo]
 exact DO (fun x=>some x) l 0 l (by omega)
theorem HD (l : List An) : Ky l l = some true:=by
 unfold Ky
 rw [if_neg (by simp),Wo]
 exact eq_l l (Gu l (some true)) (fun _=>rfl) (fun _ _ _=>rfl) l [] rfl
theorem HE (l : List Dn) : Kz l l = some true:=by
 unfold Kz
 rw [if_neg (by simp),Wo]
 exact eq_l l (Gv l (some true)) (fun _=>rfl) (fun _ _ _=>rfl) l [] rfl
theorem eqIntP (l : List Int) : Na l l = some true:=by
 unfold Na
 rw [if_neg (by simp),Wo]
 exact eq_l l (Ib l (some true)) (fun _=>rfl) (fun _ _ _=>rfl) l [] rfl
theorem bestP {x : List Dn} (hx : x.length ≤ 8) (hT : ∀ p ∈ x,TmS p) : ∃ r,Mo [Jr.mk Ke 3000] x 2 = some r:=by
 have hB : Lk [Jr.mk Ke 3000] = some 0:=by decide +kernel
 have hR:=checkT hx hT
 by_cases h : Uj x = 0
 ·rw [h] at hR
  have hb : ∀ s,Fy [Jr.mk Ke 3000] s = if decide (Ke = s) then 3000 else 0:=fun s=>rfl
  refine ⟨_,HA (fun y=>(decide (0 < Fy [Jr.mk Ke 3000] y.Race)) && decide (0 < y.Time)) (fun y=>pts 3000 y.Time) _ x 2 hB hR (by omega) (by omega) (by omega) (fun _=>rfl) fun y hy hp=>?_⟩
  simp only [Bool.and_eq_true,decide_eq_true_eq] at hp
  have hb2 : Fy [Jr.mk Ke 3000] y.Race = 3000:=by
   have:=hp.1
   rw [hb] at this ⊢
   split
   ·rfl
   ·rename_i hn; rw [if_neg hn] at this; omega
  have ht:=DN h y hy
  rw [hb2,HC (by omega) (by omega) (by omega) ht.2]
  refine ⟨rfl,?_⟩
  have t3:=Wu (t:=1) (k:=y.Time) (by omega) (by omega)
  unfold pts Vs
  have hq : 0 ≤ (3000 * 3000 * 3000 * 1000 : Int) / (y.Time * y.Time * y.Time):=Int.ediv_nonneg (by omega) (by omega)
  unfold Vv
  split <;> omega
 ·refine ⟨([],Uj x),?_⟩
  unfold Mo
  rw [hB,Option.bind_some,if_neg (by simp),hR,Option.bind_some,if_pos (by simp [h])]
theorem plain_PointsStay (l : List Int) (hl : l.length ≤ 9223372036854775807) : Ml l = some true:=by
 have hL : Wp l:=by unfold Wp; omega
 obtain ⟨t,a1,e1,p1,q1,ht⟩:=IK hL (a:=0) (by omega) (by omega)
 obtain ⟨_,a2,e2,p2,q2,Gs,rfl,hG⟩:=GU hL (a:=a1) (by omega) (by omega)
 obtain ⟨x,a3,e3,p3,q3,hx,hT⟩:=JH hL (a:=a2) (by omega) (by omega)
 obtain ⟨R,m,Y,r1,r2,r3,_,_,c1,y1,_,_,y4,y5⟩:=JA ht hG
 have hrow : ∀ r ∈ R,r.x_.Race ∈ Rl ∧ r.x_.Who ∈ Si:=fun r hr=>by
  have:=hG.row _ (r3 r hr).1
  exact ⟨this.1,this.2.1⟩
 have hgiven : Pa t Gs.flatten = some (R.map (fun r=>Cv.mk ((r.x_.Race ++ Py) ++ r.x_.Who) r.points_),0):=by
  unfold Pa
  rw [FU ht hG]
  simp only [Option.bind_some,decide_true,Bool.not_true,Bool.false_eq_true,if_false,r1,He]
  rw [FW _ R 0 [] hrow (by simp; omega)]
  simp
 obtain ⟨z,hz⟩:=bestP hx hT
 obtain ⟨s1,t1⟩:=EC (R.map (fun r=>Cv.mk ((r.x_.Race ++ Py) ++ r.x_.Who) r.points_))
 obtain ⟨s2,t2⟩:=EC Y
 obtain ⟨s3,t3⟩:=EC z.1
 unfold Ml
 rw [e1]; simp only [Option.bind_some]
 rw [e2]; simp only [Option.bind_some]
 rw [e3]; simp only [Option.bind_some]
 rw [hgiven]; simp only [Option.bind_some]
 rw [t1]; simp only [Option.bind_some]
 rw [c1]; simp only [Option.bind_some]
 rw [t2]; simp only [Option.bind_some]
 rw [hz]; simp only [Option.bind_some]
 rw [t3]; simp only [Option.bind_some]
 rw [eqIntP]; simp only [Option.bind_some,He,if_true]
 rw [HD]; simp only [Option.bind_some,Bool.and_self,if_true]
 rw [HE]; simp only [Option.bind_some,Bool.and_self,if_true,JB]
end Go.Proofs.YtfdcgchgkojfiaaGreatDoor
