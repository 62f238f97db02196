/- The plain law of SessionsStay. No program stands here but its twins. -/
import Derived.Test.YtcgffkkagmkhkaaGreatDoorPFits
namespace Go.Proofs.YtcgffkkagmkhkaaGreatDoor
open Go
theorem W_per (n : Int) : ∃ k : Int,W n = n + 18446744073709551616 * k:=by
 rw [W_eq]
 split
 ·exact ⟨-(n / 18446744073709551616) - 1,by omega⟩
 ·exact ⟨-(n / 18446744073709551616),by omega⟩
theorem GA (n k : Int) : W (n + 18446744073709551616 * k) = W n:=by
 rw [W_eq,W_eq]
 have : (n + 18446744073709551616 * k) % 18446744073709551616 = n % 18446744073709551616:=by omega
 rw [this]
theorem W_addr (x y : Int) : W (x + W y) = W (x + y):=by
 obtain ⟨k,h⟩:=W_per y
 rw [h,show x + (y + 18446744073709551616 * k) = x + y + 18446744073709551616 * k by omega,GA]
theorem W_subl (x y : Int) : W (W x - y) = W (x - y):=by
 obtain ⟨k,h⟩:=W_per x
 rw [h,show x + 18446744073709551616 * k - y = x - y + 18446744073709551616 * k by omega,GA]
def On (item : ByteArray) (h : Int) : List Ey → Option Int
 | []=>none
 | p :: l=>match On item h l with
  | some a=>some a
  | none=>if p.Item = item ∧ p.Heat = h then some p.At else none
theorem Wr (item : ByteArray) (h : Int) : ∀ (l : List Ey) (a : Int),On item h l = some a → ∃ p ∈ l,p.At = a
 | [],a,e=>by cases e
 | p :: l,a,e=>by
  rw [On] at e
  cases hq : On item h l with
  | some b=>rw [hq] at e; cases e; obtain ⟨q,h1,h2⟩:=Wr item h l a hq; exact ⟨q,List.mem_cons_of_mem _ h1,h2⟩
  | none =>
   rw [hq] at e
   simp only at e
   split at e
   ·cases e; exact ⟨p,List.mem_cons_self,rfl⟩
   ·cases e
theorem GB (j : List (An × Bool) → List (An × Int) → Option (List Ee × List Ee)) : ∀ (l : List Ey) (i : Nat) (m1 : List (An × Bool)) (m2 : List (An × Int)),
  ∃ n1 n2,Kd j l i m1 m2 = j n1 n2 ∧ (∀ item h,Jj n1 ⟨item,h⟩ false = ((On item h l).isSome || Jj m1 ⟨item,h⟩ false)) ∧ (∀ item h,Jj n2 ⟨item,h⟩ 0 = (On item h l).getD (Jj m2 ⟨item,h⟩ 0))
 | [],i,m1,m2=>⟨m1,m2,rfl,fun _ _=>by simp [On],fun _ _=>by simp [On]⟩
 | p :: l,i,m1,m2=>by
  obtain ⟨n1,n2,e,h1,h2⟩:=GB j l (i + 1) (Nz m1 ⟨p.Item,p.Heat⟩ true) (Nz m2 ⟨p.Item,p.Heat⟩ p.At)
  refine ⟨n1,n2,by rw [Kd]; exact e,fun item h=>?_,fun item h=>?_⟩
  ·rw [h1,Tk,On]
   cases On item h l with
   | some a=>simp
   | none =>
    by_cases hc : p.Item = item ∧ p.Heat = h
    ·simp [hc]
    ·rw [if_neg hc,if_neg (fun g=>hc (by simp only [An.mk.injEq] at g; exact ⟨g.1.symm,g.2.symm⟩))]
  ·rw [h2,Tk,On]
   cases On item h l with
   | some a=>simp
   | none =>
    by_cases hc : p.Item = item ∧ p.Heat = h
    ·simp [hc]
    ·rw [if_neg hc,if_neg (fun g=>hc (by simp only [An.mk.injEq] at g; exact ⟨g.1.symm,g.2.symm⟩))]
def Ch : Int → List Ee → Prop
 | _,[]=>True
 | p,s :: l=>p ≤ s.Time.From ∧ s.Time.From ≤ p + 3600000 ∧ s.Time.From ≤ s.Time.To ∧ s.Time.To ≤ s.Time.From + 3600000 ∧ Ch s.Time.To l
theorem ch_hs (y : Ed) (hy : Oa y) (rest : List Ee) : ∀ (k : Nat) (h t p : Int),p ≤ t → t ≤ p + 3600000 → Ch (Sa y (k + 1) t) rest → Ch p (hs y (k + 1) h t ++ rest)
 | 0,h,t,p,h1,h2,h3=>by
  unfold Oa at hy
  simp only [hs,List.cons_append,List.nil_append,Ch]
  exact ⟨h1,h2,by omega,by omega,h3⟩
 | k + 1,h,t,p,h1,h2,h3=>by
  have hy':=hy
  unfold Oa at hy
  rw [hs,List.cons_append,Ch]
  exact ⟨h1,h2,by simp only; omega,by simp only; omega,ch_hs y hy' rest k (h + 1) (t + y.Long + y.Gap) (t + y.Long) (by omega) (by omega) h3⟩
theorem ch_tt : ∀ (l : List Ed) (t p : Int),(∀ x ∈ l,Oa x) → p ≤ t → t ≤ p + 3600000 → Ch p (tt l t)
 | [],_,_,_,_,_=>trivial
 | y :: ys,t,p,hg,h1,h2=>by
  have hy:=hg y List.mem_cons_self
  have hy':=hy
  unfold Oa at hy'
  rw [tt]
  obtain ⟨k,hk⟩ : ∃ k,y.Heats.toNat = k + 1:=⟨y.Heats.toNat - 1,by omega⟩
  rw [hk]
  exact ch_hs y hy _ k 1 t p h1 h2 (ch_tt ys _ _ (fun x hx=>hg x (List.mem_cons_of_mem _ hx)) (by omega) (by omega))
end Go.Proofs.YtcgffkkagmkhkaaGreatDoor
namespace Go.Proofs.YtcgffkkagmkhkaaGreatDoor
open Go
theorem IV : Qm = some true:=by decide +kernel
end Go.Proofs.YtcgffkkagmkhkaaGreatDoor
namespace Go.Proofs.YtcgffkkagmkhkaaGreatDoor
open Go
def DY : List ByteArray:=[Uo,Up,Uq,Ur,Wl]
theorem five_i {s : ByteArray} (h : s ∈ DY) : Js s = some true:=by
 simp only [DY,List.mem_cons,List.not_mem_nil,or_false] at h
 rcases h with rfl | rfl | rfl | rfl | rfl <;> decide +kernel
def IW (x : Ed) : Prop:=Oa x ∧ x.Key ∈ DY
theorem BR : ∀ (ys : List Ed) (i : Nat) (m : List (ByteArray × Bool)),(∀ x ∈ ys,IW x ∧ Jj m x.Key false = false) → ys.Pairwise (fun a b=>a.Key ≠ b.Key) → Hs (fun _=>some 0) ys i m = some 0
 | [],_,_,_,_=>rfl
 | y :: ys,i,m,h,hp=>by
  rw [Hs]
  obtain ⟨⟨hg,hk⟩,hm⟩:=h y List.mem_cons_self
  rw [List.pairwise_cons] at hp
  rw [five_i hk]
  have hr : ((((!(Ev y.Heats 1 60)) || (!(Ev y.Long 1 3600000))) || (!(Ev y.Gap 0 3600000))) || (!(Ev y.Break 0 3600000))) = false:=by
   unfold Oa at hg
   unfold Ev
   simp [hg]
  simp only [Option.bind_some,Bool.not_true,Bool.false_eq_true,if_false,hm,hr]
  refine BR ys (i + 1) _ (fun x hx=>⟨(h x (List.mem_cons_of_mem _ hx)).1,?_⟩) hp.2
  rw [Tk,if_neg (fun e=>hp.1 x hx e.symm)]
  exact (h x (List.mem_cons_of_mem _ hx)).2
section
variable {L : List Int} (hL : AJ L)
include hL
theorem Sz : ∀ (ys : List ByteArray) (i : Nat) (x1 : List Ed) (a : Int),0 ≤ a → a + 5 * ys.length ≤ 1000000000000 → x1.length + ys.length ≤ 1000 → (∀ y ∈ ys,y ∈ DY) → ys.Pairwise (fun a b=>a ≠ b) → (∀ x ∈ x1,IW x ∧ ∀ y ∈ ys,x.Key ≠ y) → x1.Pairwise (fun a b=>a.Key ≠ b.Key) →
  ∃ x b,Ia L (fun x a=>some (x,a)) ys i x1 a = some (x,b) ∧ a ≤ b ∧ b ≤ a + 5 * ys.length ∧ x.length ≤ x1.length + ys.length ∧ (∀ z ∈ x,IW z) ∧ x.Pairwise (fun a b=>a.Key ≠ b.Key)
 | [],i,x1,a,_,_,_,_,_,h5,h6=>⟨x1,a,rfl,Int.le_refl _,by simp,by simp,fun z hz=>(h5 z hz).1,h6⟩
 | y :: ys,i,x1,a,h0,h1,h2,h3,h4,h5,h6=>by
  rw [Ia]
  rw [List.pairwise_cons] at h4
  simp only [List.length_cons] at h1 h2 ⊢
  obtain ⟨f,b,e,g1,g2,_⟩:=Zl hL h0 (by omega) 6 (by omega)
  rw [e]; simp only [Option.bind_some,Re]
  cases f with
  | true =>
   rw [if_neg (by simp)]
   obtain ⟨x,c,e',g3,g4,g5,g6,g7⟩:=Sz ys (i + 1) x1 b (by omega) (by omega) (by omega) (fun z hz=>h3 z (List.mem_cons_of_mem _ hz)) h4.2 (fun x hx=>⟨(h5 x hx).1,fun z hz=>(h5 x hx).2 z (List.mem_cons_of_mem _ hz)⟩) h6
   exact ⟨x,c,e',by omega,by omega,by omega,g6,g7⟩
  | false =>
   rw [if_pos (by simp)]
   obtain ⟨s,b2,e2,g3,g4,q2⟩:=Xq hL (a:=b) (by omega) (by omega) [1,1,2,3] (by simp) (by simp)
   rw [e2]; simp only [Option.bind_some]
   obtain ⟨t,b3,e3,g5,g6,q3⟩:=Xq hL (a:=b2) (by omega) (by omega) [50,100] (by simp) (by simp)
   rw [e3]; simp only [Option.bind_some]
   obtain ⟨u,b4,e4,g7,g8,q4⟩:=Xq hL (a:=b3) (by omega) (by omega) [0,10,60] (by simp) (by simp)
   rw [e4]; simp only [Option.bind_some]
   obtain ⟨v,b5,e5,g9,g10,q5⟩:=Xq hL (a:=b4) (by omega) (by omega) [0,20,50,200] (by simp) (by simp)
   rw [e5]; simp only [Option.bind_some]
   rw [Nt (by unfold Qa; simp; omega)]
   simp only [List.mem_cons,List.not_mem_nil,or_false] at q2 q3 q4 q5
   have hit : IW (Ed.mk y s t u v):=⟨by unfold Oa; simp only; omega,h3 y List.mem_cons_self⟩
   obtain ⟨x,c,e',g11,g12,g13,g14,g15⟩:=Sz ys (i + 1) (x1 ++ [Ed.mk y s t u v]) b5 (by omega) (by omega) (by simp; omega) (fun z hz=>h3 z (List.mem_cons_of_mem _ hz)) h4.2
    (fun x hx=>by
     rcases List.mem_append.1 hx with h | h
     ·exact ⟨(h5 x h).1,fun z hz=>(h5 x h).2 z (List.mem_cons_of_mem _ hz)⟩
     ·rw [List.mem_singleton] at h; subst h; exact ⟨hit,fun z hz=>h4.1 z hz⟩)
    (List.pairwise_append.2 ⟨h6,by simp,fun x hx z hz=>by rw [List.mem_singleton] at hz; subst hz; exact (h5 x hx).2 y List.mem_cons_self⟩)
   simp only [List.length_append,List.length_singleton] at g13
   exact ⟨x,c,e',by omega,by omega,by omega,g14,g15⟩
def AU (v : Int) : Prop:=v ≤ 10000 ∨ 345686400000 < v
theorem odd_at {a : Int} (h0 : 0 ≤ a) (h1 : a ≤ 1000000000) : Dr a 2 AU (Me L a 0 500):=by
 obtain ⟨b,e1⟩:=CN L a 12 h0 (by omega) hL (by omega)
 unfold Me
 rw [e1]
 simp only [Option.bind_some]
 cases b with
 | true =>
  obtain ⟨v,e,hv⟩:=CM L (a + 1) [W (0 - 1),W (500 + 1),0,500,(-1099511627776),1099511627776] (by omega) (by omega) hL (by simp) (by simp)
  rw [if_pos rfl,e]
  refine ⟨_,_,rfl,by show a ≤ a + 1 + 1; omega,by show a + 1 + 1 ≤ a + 2; omega,?_⟩
  rw [Oq (by omega) (by omega),Oq (by omega) (by omega)] at hv
  simp only [List.mem_cons,List.not_mem_nil,or_false] at hv
  unfold AU; omega
 | false =>
  rw [if_neg (by simp)]
  obtain ⟨v,c,e,g1,g2,g3,g4⟩:=DX hL (a:=a + 1) (by omega) (by omega) 0 500 (by omega) (by omega) (by omega)
  rw [e]
  exact ⟨_,_,rfl,by omega,by omega,.inl (by omega)⟩
theorem AL (y : Ed) (j : List Ey → Int → Int → Option (List Ey × Int)) : ∀ (k m : Nat) (x4 : List Ey) (a x6 x7 : Int),1 ≤ x7 → x7 ≤ 1000 → Tl y.Heats 3 - x7 + 1 ≤ (k : Int) → (k : Int) ≤ 3 → k < m → 0 ≤ a → a + 2 * k ≤ 1000000000 → x4.length + k ≤ 100000 → 0 ≤ x6 → x6 + 200 * k ≤ 10000 → (∀ p ∈ x4,AU p.At) →
  ∃ x b z,Kc y L j m x4 a x6 x7 = j x b z ∧ a ≤ b ∧ b ≤ a + 2 * k ∧ x.length ≤ x4.length + k ∧ 0 ≤ z ∧ z ≤ x6 + 200 * k ∧ ∀ p ∈ x,AU p.At
 | k,0,_,_,_,_,_,_,_,_,h,_,_,_,_,_,_=>absurd h (by omega)
 | k,m + 1,x4,a,x6,x7,h1,h1',h2,h3,h4,h5,h6,h7,h8,h9,h10=>by
  rw [Kc]
  have him : Tl y.Heats 3 = min y.Heats 3:=by unfold Tl; split <;> omega
  by_cases hc : x7 ≤ Tl y.Heats 3
  ·rw [if_pos (decide_eq_true hc)]
   obtain ⟨q,b,e,g1,g2,hq⟩:=Xq hL h5 (by omega) [0,50,100,200] (by simp) (by simp)
   simp only [List.mem_cons,List.not_mem_nil,or_false] at hq
   simp only [Re]
   rw [e]; simp only [Option.bind_some]
   obtain ⟨f,b2,e2,g3,g4,_⟩:=Zl hL (a:=b) (by omega) (by omega) 3 (by omega)
   rw [e2]; simp only [Option.bind_some]
   rw [Oq (n:=x7 + 1) (by omega) (by omega)]
   cases k with
   | zero=>omega
   | succ k =>
    rw [Oq (n:=x6 + q) (by omega) (by omega)]
    cases f with
    | true =>
     rw [if_pos rfl,Nt (by unfold Qa; simp; omega)]
     obtain ⟨x,c,z,r1,r2,r3,r4,r5,r6,r7⟩:=AL y j k m (x4 ++ [Ey.mk y.Key x7 (x6 + q)]) b2 (x6 + q) (x7 + 1) (by omega) (by omega) (by omega) (by omega) (by omega) (by omega) (by omega) (by simp; omega) (by omega) (by omega) (fun p hp=>by
      rcases List.mem_append.1 hp with h | h
      ·exact h10 p h
      ·rw [List.mem_singleton] at h; subst h; exact .inl (by show x6 + q ≤ 10000; omega))
     exact ⟨x,c,z,r1,by omega,by push_cast; omega,by simp at r4; omega,r5,by push_cast; omega,r7⟩
    | false =>
     rw [if_neg (by simp)]
     obtain ⟨x,c,z,r1,r2,r3,r4,r5,r6,r7⟩:=AL y j k m x4 b2 (x6 + q) (x7 + 1) (by omega) (by omega) (by omega) (by omega) (by omega) (by omega) (by omega) (by omega) (by omega) (by omega) h10
     exact ⟨x,c,z,r1,by omega,by push_cast; omega,by omega,r5,by push_cast; omega,r7⟩
  ·rw [if_neg (by simpa using hc)]
   exact ⟨x4,a,x6,rfl,by omega,by omega,by omega,by omega,by omega,h10⟩
theorem DZ (K : List Ey → Int → Option (List Ey × Int)) : ∀ (ys : List Ed) (i : Nat) (x1 : List Ey) (a x3 : Int),0 ≤ a → a + 6 * ys.length ≤ 100000000 → x1.length + 3 * ys.length ≤ 10000 → 0 ≤ x3 → x3 + 600 * ys.length ≤ 9000 → (∀ p ∈ x1,AU p.At) →
   ∃ x b,Jo L K ys i x1 a x3 = K x b ∧ a ≤ b ∧ b ≤ a + 6 * ys.length ∧ x.length ≤ x1.length + 3 * ys.length ∧ ∀ p ∈ x,AU p.At
 | [],i,x1,a,x3,_,_,_,_,_,h=>⟨x1,a,rfl,Int.le_refl _,by simp,by simp,h⟩
 | y :: ys,i,x1,a,x3,h0,h1,h2,h3,h4,h5=>by
  rw [Jo]
  simp only [Re,List.length_cons] at h1 h2 h4 ⊢
  have him : Tl y.Heats 3 = min y.Heats 3:=by unfold Tl; split <;> omega
  obtain ⟨x,b,z,r1,r2,r3,r4,r5,r6,r7⟩:=AL hL y (fun x4 x5 x6=>Jo L K ys (i + 1) x4 x5 x6) (Tl y.Heats 3).toNat ((Tl y.Heats 3 - 1).toNat + 2) x1 a x3 1 (by omega) (by omega) (by omega) (by omega) (by omega) h0 (by omega) (by omega) h3 (by omega) h5
  rw [r1]
  obtain ⟨x',c,e,g1,g2,g3,g4⟩:=DZ K ys (i + 1) x b z (by omega) (by omega) (by omega) r5 (by omega) r7
  exact ⟨x',c,e,by omega,by omega,by omega,g4⟩
theorem IX {a : Int} (h0 : 0 ≤ a) (h1 : a ≤ 1000000) (items : List Ed) (hi : items.length ≤ 5) : ∃ x b,Pr L a items = some (x,b) ∧ ∀ p ∈ x,AU p.At:=by
 unfold Pr
 simp only [Re]
 obtain ⟨x,b,e,g1,g2,g3,g4⟩:=DZ hL (fun x1 x2=>if (decide (0 < (x1.length : Int))) = true then Option.bind (Lo L x2 12) (fun r3 =>
   if r3.1 = true then Option.bind (Li L r3.2 (x1.length : Int)) (fun r4=>Chk (inB r4.1 x1.length) (Option.bind (Pl L r4.2 [(nth x1 r4.1).Item,DK]) (fun r5=>Option.bind (Me L r5.2 1 3) (fun r6=>Option.bind (Me L r6.2 0 500) (fun r7 =>
    some ((((x1.set r4.1.toNat (Ey.mk r5.1 ((nth x1 r4.1).Heat) ((nth x1 r4.1).At))).set r4.1.toNat (Ey.mk r5.1 r6.1 ((nth x1 r4.1).At))).set r4.1.toNat (Ey.mk r5.1 r6.1 r7.1)),r7.2)))))) else some (x1,r3.2)) else if false = true then Option.bind (Li L x2 (x1.length : Int)) (fun r4=>Chk (inB r4.1 x1.length) (Option.bind (Pl L r4.2 [(nth x1 r4.1).Item,DK]) (fun r5=>Option.bind (Me L r5.2 1 3) (fun r6=>Option.bind (Me L r6.2 0 500) (fun r7 =>
    some ((((x1.set r4.1.toNat (Ey.mk r5.1 ((nth x1 r4.1).Heat) ((nth x1 r4.1).At))).set r4.1.toNat (Ey.mk r5.1 r6.1 ((nth x1 r4.1).At))).set r4.1.toNat (Ey.mk r5.1 r6.1 r7.1)),r7.2)))))) else some (x1,x2)) items 0 [] a 0 h0 (by omega) (by simp; omega) (by omega) (by omega) (fun _ h=>by cases h)
 rw [e]
 by_cases hp : 0 < (x.length : Int)
 ·rw [if_pos (decide_eq_true hp)]
  simp only [List.length_nil] at g3
  obtain ⟨f,b1,e1,g5,g6,_⟩:=Zl hL (a:=b) (by omega) (by omega) 12 (by omega)
  rw [e1]; simp only [Option.bind_some]
  cases f with
  | false=>rw [if_neg (by simp)]; exact ⟨x,b1,rfl,g4⟩
  | true =>
   rw [if_pos rfl]
   obtain ⟨i,b2,e2,g7,g8,g9⟩:=next_dr hL (a:=b1) (by omega) (by omega) (x.length : Int) (by omega)
   rw [e2]; simp only [Option.bind_some]
   have hin : inB i x.length = true:=Ja.2 ⟨g9.1,by omega⟩
   rw [Nt hin]
   obtain ⟨s,b3,e3,g10,g11,_⟩:=some_dr hL (a:=b2) (by omega) (by omega) [(nth x i).Item,DK] (by simp) (by simp)
   rw [e3]; simp only [Option.bind_some]
   obtain ⟨t,b4,e4,g12,g13,_⟩:=odd_dr hL (a:=b3) (by omega) (by omega) 1 3 (by omega) (by omega) (by omega)
   rw [e4]; simp only [Option.bind_some]
   obtain ⟨u,b5,e5,g14,g15,hu⟩:=odd_at hL (a:=b4) (by omega) (by omega)
   rw [e5]; simp only [Option.bind_some]
   have hn : AU (nth x i).At:=g4 _ (List.mem_of_getElem? (El hin).1)
   refine ⟨_,_,rfl,fun p hp=>?_⟩
   rcases List.mem_or_eq_of_mem_set hp with hp | rfl
   ·rcases List.mem_or_eq_of_mem_set hp with hp | rfl
    ·rcases List.mem_or_eq_of_mem_set hp with hp | rfl
     ·exact g4 p hp
     ·exact hn
    ·exact hn
   ·exact hu
 ·rw [if_neg (by simpa using hp),if_neg (by simp)]
  exact ⟨x,b,rfl,g4⟩
end
def LF (l : List Ey) (z R : List Ee) (i : Nat) : Prop:=∀ s r,z[i]? = some s → R[i]? = some r → s.Time.To - s.Time.From = r.Time.To - r.Time.From ∧ s.Item = r.Item ∧ s.Heat = r.Heat ∧ (On r.Item r.Heat l = none → r.Time.From ≤ s.Time.From) ∧ (∀ q,0 < i → z[i - 1]? = some q → q.Time.To ≤ s.Time.From)
theorem lf_snoc {l : List Ey} {x3 R dn ys : List Ee} {y n : Ee} (h : ∀ i,LF l x3 R i) (hR : R = dn ++ y :: ys) (hl : x3.length = dn.length) (h1 : n.Time.To - n.Time.From = y.Time.To - y.Time.From) (h2 : n.Item = y.Item) (h3 : n.Heat = y.Heat)
  (h4 : On y.Item y.Heat l = none → y.Time.From ≤ n.Time.From) (h5 : ∀ q,x3.getLast? = some q → q.Time.To ≤ n.Time.From) : ∀ i,LF l (x3 ++ [n]) R i:=by
 intro i s r hs hr
 rcases Nat.lt_trichotomy i x3.length with hi | hi | hi
 ·rw [List.getElem?_append_left hi] at hs
  obtain ⟨g1,g2,g3,g4,g5⟩:=h i s r hs hr
  exact ⟨g1,g2,g3,g4,fun q h0 hq=>g5 q h0 (by rwa [List.getElem?_append_left (by omega)] at hq)⟩
 ·subst hi
  rw [List.getElem?_append_right (Nat.le_refl _)] at hs
  simp only [Nat.sub_self,List.getElem?_cons_zero,Option.some.injEq] at hs
  subst hs
  rw [hR,hl,List.getElem?_append_right (Nat.le_refl _)] at hr
  simp only [Nat.sub_self,List.getElem?_cons_zero,Option.some.injEq] at hr
  subst hr
  refine ⟨h1,h2,h3,h4,fun q h0 hq=>h5 q ?_⟩
  rw [List.getElem?_append_left (by omega)] at hq
  rw [List.getLast?_eq_getElem?]; exact hq
 ·rw [List.getElem?_eq_none (by simp; omega)] at hs; cases hs
theorem live_h (l : List Ey) (hAt : ∀ p ∈ l,0 ≤ p.At ∧ p.At ≤ 10000) (n1 : List (An × Bool)) (n2 : List (An × Int)) (hn1 : ∀ item h,Jj n1 ⟨item,h⟩ false = (On item h l).isSome) (hn2 : ∀ item h,Jj n2 ⟨item,h⟩ 0 = (On item h l).getD 0)
  (R : List Ee) (hR : R.length ≤ 6000) (t : Int) (ht0 : 0 ≤ t) (ht : t ≤ 100000) : ∀ (ys dn x3 : List Ee),R = dn ++ ys → x3.length = dn.length →
  ((dn = [] ∧ x3 = [] ∧ Ch t ys) ∨ ∃ (d : List Ee) (P : Ee) (x : List Ee) (Q : Ee),dn = d ++ [P] ∧ x3 = x ++ [Q] ∧ Ch P.Time.To ys ∧ 0 ≤ P.Time.To ∧ P.Time.To ≤ 1000000 + dn.length * 7200000 ∧ 0 ≤ Q.Time.To ∧ Q.Time.To ≤ 1000000 + dn.length * 20000000) →
  (∀ i,LF l x3 R i) → (l = [] → x3 = dn) → (∀ s ∈ x3,s.Time.To ≤ 300000000000) →
  ∃ z,Je n1 n2 R (fun x=>some (x,R)) ys dn.length x3 = some (z,R) ∧ z.length = R.length ∧ (∀ i,LF l z R i) ∧ (l = [] → z = R) ∧ ∀ s ∈ z,s.Time.To ≤ 300000000000:=by
 intro ys
 induction ys with
 | nil =>
  intro dn x3 h1 h2 _ h4 h5 h6
  rw [List.append_nil] at h1
  exact ⟨x3,rfl,by rw [h2,h1],h4,fun h=>(h5 h).trans h1.symm,h6⟩
 | cons y ys ih =>
  intro dn x3 h1 h2 h3 h4 h5 h6
  rw [Je]
  simp only [Re]
  have hRl : dn.length + (ys.length + 1) ≤ 6000:=by rw [h1] at hR; simpa using hR
  have main : ∃ v : Int,(∀ k : Int → Option (List Ee × List Ee),(if decide (0 < (dn.length : Int)) = true then
     Chk (inB (W ((dn.length : Int) - 1)) x3.length) (Chk (inB (W ((dn.length : Int) - 1)) R.length)
      (if Jj n1 (An.mk y.Item y.Heat) false = true then if decide (0 < (dn.length : Int)) = true then Chk (inB (W ((dn.length : Int) - 1)) x3.length) (k (Xt (Jj n2 (An.mk y.Item y.Heat) 0) ((nth x3 (W ((dn.length : Int) - 1))).Time.To))) else k (Jj n2 (An.mk y.Item y.Heat) 0)
       else k (Xt y.Time.From (W (W ((nth x3 (W ((dn.length : Int) - 1))).Time.To + y.Time.From) - (nth R (W ((dn.length : Int) - 1))).Time.To)))))
    else if Jj n1 (An.mk y.Item y.Heat) false = true then if decide (0 < (dn.length : Int)) = true then Chk (inB (W ((dn.length : Int) - 1)) x3.length) (k (Xt (Jj n2 (An.mk y.Item y.Heat) 0) ((nth x3 (W ((dn.length : Int) - 1))).Time.To))) else k (Jj n2 (An.mk y.Item y.Heat) 0)
       else k y.Time.From) = k v) ∧
    0 ≤ v ∧ v ≤ 1000000 + dn.length * 20000000 + 3600000 ∧ (On y.Item y.Heat l = none → y.Time.From ≤ v) ∧ (∀ q,x3.getLast? = some q → q.Time.To ≤ v) ∧ (l = [] → v = y.Time.From) ∧ y.Time.From ≤ y.Time.To ∧ y.Time.To ≤ y.Time.From + 3600000 ∧ Ch y.Time.To ys ∧ 0 ≤ y.Time.To ∧ y.Time.To ≤ 1000000 + (dn.length + 1) * 7200000:=by
   rcases h3 with ⟨rfl,rfl,hc⟩ | ⟨d,P,x,Q,rfl,rfl,hc,p0,p1,q0,q1⟩
   ·rw [Ch] at hc
    simp only [List.length_nil,Int.natCast_zero,Int.lt_irrefl,decide_false,Bool.false_eq_true,if_false,hn1,hn2]
    cases ha : On y.Item y.Heat l with
    | none =>
     refine ⟨y.Time.From,fun k=>by simp,by omega,by omega,(fun _=>Int.le_refl _),(fun q hq=>by simp at hq),(fun _=>rfl),by omega,by omega,hc.2.2.2.2,by omega,by omega⟩
    | some a =>
     obtain ⟨p,hp,rfl⟩:=Wr _ _ _ _ ha
     have:=hAt p hp
     refine ⟨p.At,fun k=>by simp,by omega,by omega,(fun h=>by cases h),(fun q hq=>by simp at hq),(fun h=>by rw [h] at hp; cases hp),by omega,by omega,hc.2.2.2.2,by omega,by omega⟩
   ·rw [Ch] at hc
    have hl1 : ((d ++ [P]).length : Int) = (d.length : Int) + 1:=by simp
    have hpos : decide (0 < ((d ++ [P]).length : Int)) = true:=by rw [hl1]; simp
    have hxd : x.length = d.length:=by simpa using h2
    have hw : W (((d ++ [P]).length : Int) - 1) = (d.length : Int):=by rw [hl1,Oq (by simp at hRl; omega) (by simp at hRl; omega)]; omega
    have c1 : inB (d.length : Int) (x ++ [Q]).length = true:=by rw [Ja]; simp; omega
    have c2 : inB (d.length : Int) R.length = true:=by rw [Ja,h1]; simp; omega
    have e1 : nth (x ++ [Q]) (d.length : Int) = Q:=by unfold nth; rw [← hxd]; simp
    have e2 : nth R (d.length : Int) = P:=by unfold nth; rw [h1]; simp
    rw [hl1] at p1 q1
    have hb:=hRl
    simp at hb
    have ev : W (W (Q.Time.To + y.Time.From) - P.Time.To) = Q.Time.To + y.Time.From - P.Time.To:=by rw [W_subl]; exact Oq (by omega) (by omega)
    simp only [hw,hpos,if_true,Nt c1,Nt c2,e1,e2,hn1,hn2,ev]
    rw [hl1]
    cases ha : On y.Item y.Heat l with
    | none =>
     have hmx : Xt y.Time.From (Q.Time.To + y.Time.From - P.Time.To) = max y.Time.From (Q.Time.To + y.Time.From - P.Time.To):=by unfold Xt; split <;> omega
     refine ⟨Xt y.Time.From (Q.Time.To + y.Time.From - P.Time.To),fun k=>by simp,by omega,by omega,(fun _=>by omega),(fun q hq=>by
      have : Q = q:=by simpa using hq
      subst this; omega),(fun h=>by
      have:=List.append_inj' (h5 h) rfl
      have hq : Q = P:=by simpa using this.2
      subst hq; omega),by omega,by omega,hc.2.2.2.2,by omega,by omega⟩
    | some a =>
     obtain ⟨p,hp,rfl⟩:=Wr _ _ _ _ ha
     have:=hAt p hp
     have hmx : Xt p.At Q.Time.To = max p.At Q.Time.To:=by unfold Xt; split <;> omega
     refine ⟨Xt p.At Q.Time.To,fun k=>by simp,by omega,by omega,(fun h=>by cases h),(fun q hq=>by
      have : Q = q:=by simpa using hq
      subst this; omega),(fun h=>by rw [h] at hp; cases hp),by omega,by omega,hc.2.2.2.2,by omega,by omega⟩
  obtain ⟨v,m1,v0,v1,v2,v3,v4,y1,y2,y3,y4,y5⟩:=main
  have hto : W (v + W (y.Time.To - y.Time.From)) = v + (y.Time.To - y.Time.From):=by rw [W_addr]; exact Oq (by omega) (by omega)
  obtain ⟨z,z1,z2⟩:=ih (dn ++ [y]) (x3 ++ [Ee.mk y.Item y.Heat (Gs.mk v (v + (y.Time.To - y.Time.From)))]) (by rw [h1]; simp) (by simp [h2])
   (.inr ⟨dn,y,x3,_,rfl,rfl,y3,y4,by simp; omega,by simp only; omega,by simp; omega⟩)
   (lf_snoc h4 h1 h2 (by simp only; omega) rfl rfl v2 v3)
   (fun h=>by
    have hv:=v4 h
    rw [h5 h,hv,show y.Time.From + (y.Time.To - y.Time.From) = y.Time.To by omega])
   (fun s hs=>by
    rcases List.mem_append.1 hs with h | h
    ·exact h6 s h
    ·rw [List.mem_singleton] at h; subst h; simp only; omega)
  rw [List.length_append,List.length_singleton] at z1
  refine ⟨z,?_,z2⟩
  refine (m1 (fun x5=>Chk (Qa x3.length) (Je n1 n2 R (fun x=>some (x,R)) ys (dn.length + 1) (x3 ++ [(Ee.mk y.Item y.Heat (Gs.mk x5 (W (x5 + (W (y.Time.To - y.Time.From))))))])))).trans ?_
  rw [Nt (by unfold Qa; simp; omega),hto]
  exact z1
theorem IY (items : List Ed) (hg : ∀ x ∈ items,Oa x) (hi : items.length ≤ 100) (t : Int) (ht0 : 0 ≤ t) (ht : t ≤ 100000) (l : List Ey) (hAt : ∀ p ∈ l,0 ≤ p.At ∧ p.At ≤ 10000) :
  ∃ z,Qx items t l = some (z,tt items t) ∧ z.length = (tt items t).length ∧ (∀ i,LF l z (tt items t) i) ∧ (l = [] → z = tt items t) ∧ Om z t ≤ 345686400000 ∧ z.length < 1073741824:=by
 have hlen:=AC items t hg
 obtain ⟨n1,n2,g1,g2,g3⟩:=GB (fun x1 x2=>Je x1 x2 (tt items t) (fun x=>some (x,tt items t)) (tt items t) 0 []) l 0 [] []
 obtain ⟨z,z1,z2,z3,z4,z5⟩:=live_h l hAt n1 n2 (fun item h=>by rw [g2]; simp [Jj,Zn,Ot]) (fun item h=>by rw [g3]; simp [Jj,Zn,Ot])
  (tt items t) (by omega) t ht0 ht (tt items t) [] [] rfl rfl (.inl ⟨rfl,rfl,ch_tt items t t hg (Int.le_refl _) (by omega)⟩) (fun i s r hs=>by simp at hs) (fun _=>rfl) (fun _ h=>by cases h)
 refine ⟨z,?_,z2,z3,z4,?_,by omega⟩
 ·unfold Qx
  rw [Ud items t hg hi ht0 (by omega)]
  simp only [Option.bind_some,Re]
  exact g1.trans z1
 ·unfold Om
  cases hz : z.getLast? with
  | none=>simp only; omega
  | some s=>have:=z5 s (List.mem_of_getLast? hz); simp only; omega
end Go.Proofs.YtcgffkkagmkhkaaGreatDoor
namespace Go.Proofs.YtcgffkkagmkhkaaGreatDoor
open Go
theorem EW (x y : Ed) : ltI x y = decide (cB x.Key y.Key < 0):=by
 unfold ltI Ir
 rw [IH]
 by_cases h : cB x.Key y.Key < 0 <;> simp [h]
theorem own_asc (items : List Ed) (hd : items.Pairwise fun a b=>a.Key ≠ b.Key) : (Lw ltI items).Pairwise fun a b=>cB a.Key b.Key < 0:=by
 have h:=BO (lt:=ltI) (fun x y z h1 h2=>by rw [EW] at *; exact decide_eq_true (AE (of_decide_eq_true h1) (of_decide_eq_true h2))) items (hd.imp_of_mem fun {a b} _ _ hne h=>by
  rw [EW] at *
  have h1:=of_decide_eq_false h
  have h2:=cB_flip a.Key b.Key
  have h3 : cB a.Key b.Key ≠ 0:=fun e=>hne (Zi e)
  exact decide_eq_true (by omega))
 exact h.imp_of_mem fun {a b} _ _ h=>by rw [EW] at h; exact of_decide_eq_true h
def IZ (items : List Ed) (c : Es) : Prop:=∃ y ∈ items,c.Item = y.Key ∧ 1 ≤ c.Heat ∧ c.Heat ≤ y.Heats
section
variable {L : List Int} (hL : AJ L)
include hL
theorem CU (items : List Ed) (w : ByteArray) (j : List Es → Int → Option (List Es × Int)) : ∀ (ys : List Ed) (i : Nat) (x : List Es) (a : Int),0 ≤ a → a + 2 * ys.length ≤ 100000000 → x.length + ys.length ≤ 10000 → (∀ y ∈ ys,y ∈ items ∧ 1 ≤ y.Heats) → (ys.Pairwise fun a b=>cB a.Key b.Key < 0) →
  ∃ z b,Ib L w j ys i x a = j (x ++ z) b ∧ a ≤ b ∧ b ≤ a + 2 * ys.length ∧ z.length ≤ ys.length ∧ (∀ c ∈ z,c.Who = w ∧ IZ items c ∧ ∃ y ∈ ys,c.Item = y.Key) ∧ z.Pairwise fun a b=>cC a b < 0
 | [],i,x,a,_,_,_,_,_=>⟨[],a,by rw [List.append_nil]; rfl,by omega,by simp,by simp,(fun _ h=>by cases h),List.Pairwise.nil⟩
 | y :: ys,i,x,a,h1,h2,h3,h4,h5=>by
  simp only [List.length_cons] at h2 h3 ⊢
  rw [List.pairwise_cons] at h5
  rw [Ib]
  simp only [Lv]
  obtain ⟨f,b1,e1,g1,g2,_⟩:=Zl hL (a:=a) h1 (by omega) 2 (by omega)
  rw [e1]; simp only [Option.bind_some]
  cases hc : (f && decide (0 < y.Heats)) with
  | true =>
   rw [if_pos rfl]
   obtain ⟨h,b2,e2,g3,g4,g5,g6⟩:=DX hL (a:=b1) (by omega) (by omega) 1 (Tl y.Heats 3) (by omega) (by omega) (by have:=imin3 y.Heats; omega)
   rw [e2]; simp only [Option.bind_some]
   rw [My (by unfold Qa; simp; omega)]
   obtain ⟨z,b,r1,r2,r3,r4,r5,r6⟩:=CU items w j ys (i + 1) (x ++ [Es.mk w y.Key h]) b2 (by omega) (by omega) (by simp; omega) (fun z hz=>h4 z (List.mem_cons_of_mem _ hz)) h5.2
   obtain ⟨hy1,hy2⟩:=h4 y (by simp)
   have hh : h ≤ y.Heats:=by
    rcases g6 with g6 | g6
    ·unfold Tl at g6
     split at g6 <;> omega
    ·omega
   refine ⟨Es.mk w y.Key h :: z,b,by rw [r1]; simp,by omega,by omega,by simp; omega,fun c hc=>?_,List.pairwise_cons.2 ⟨fun c hc=>?_,r6⟩⟩
   ·rcases List.mem_cons.1 hc with rfl | hc
    ·exact ⟨rfl,⟨y,hy1,rfl,g5,hh⟩,y,by simp,rfl⟩
    ·obtain ⟨q1,q2,q,q3,q4⟩:=r5 c hc
     exact ⟨q1,q2,q,List.mem_cons_of_mem _ q3,q4⟩
   ·obtain ⟨q1,_,q,q3,q4⟩:=r5 c hc
    rw [CR]
    refine .inr ⟨q1.symm,.inl ?_⟩
    show cB y.Key c.Item < 0
    rw [q4]
    exact h5.1 q q3
  | false =>
   rw [if_neg (by simp)]
   obtain ⟨z,b,r1,r2,r3,r4,r5,r6⟩:=CU items w j ys (i + 1) x b1 (by omega) (by omega) (by omega) (fun z hz=>h4 z (List.mem_cons_of_mem _ hz)) h5.2
   exact ⟨z,b,r1,by omega,by omega,by omega,fun c hc=>by obtain ⟨q1,q2,q,q3,q4⟩:=r5 c hc; exact ⟨q1,q2,q,List.mem_cons_of_mem _ q3,q4⟩,r6⟩
theorem GC (items : List Ed) (hi : items.length ≤ 5) (hh : ∀ y ∈ items,1 ≤ y.Heats) (hd : items.Pairwise fun a b=>a.Key ≠ b.Key) : ∀ (ws : List ByteArray) (i : Nat) (x : List Es) (a : Int),0 ≤ a → a + 10 * ws.length ≤ 10000000 → x.length + 5 * ws.length ≤ 1000 → (ws.Pairwise fun a b=>cB a b < 0) →
  ∃ z b,Hi items L (fun x a=>some (x,a)) ws i x a = some (x ++ z,b) ∧ a ≤ b ∧ b ≤ a + 10 * ws.length ∧ z.length ≤ 5 * ws.length ∧ (∀ c ∈ z,c.Who ∈ ws ∧ IZ items c) ∧ (z.Pairwise fun a b=>cC a b < 0) ∧ ∀ who,(z.filter fun c=>decide (c.Who = who)).length ≤ 5 * (ws.filter fun w=>decide (w = who)).length
 | [],i,x,a,_,_,_,_=>⟨[],a,by rw [List.append_nil]; rfl,by omega,by simp,by simp,(fun _ h=>by cases h),List.Pairwise.nil,fun _=>by simp⟩
 | w :: ws,i,x,a,h1,h2,h3,h4=>by
  simp only [List.length_cons] at h2 h3 ⊢
  rw [List.pairwise_cons] at h4
  rw [Hi]
  unfold Lz
  rw [My (by simp; omega)]
  simp only [Option.bind_some,List.nil_append]
  rw [IT items (by omega)]
  simp only [Option.bind_some,Lv]
  have hil:=AH ltI items
  obtain ⟨z1,b1,e1,g1,g2,g3,g4,g4'⟩:=CU hL items w (fun (x3 : List Es) (x4 : Int)=>Hi items L (fun x a=>some (x,a)) ws (i + 1) x3 x4) (Lw ltI items) 0 x a h1 (by omega) (by omega) (fun y hy=>⟨(Vy _ _ _).1 hy,hh y ((Vy _ _ _).1 hy)⟩) (own_asc items hd)
  rw [e1]
  obtain ⟨z2,b2,e2,g5,g6,g7,g8,g9,g10⟩:=GC items hi hh hd ws (i + 1) (x ++ z1) b1 (by omega) (by omega) (by rw [List.length_append]; omega) h4.2
  refine ⟨z1 ++ z2,b2,by rw [e2]; simp,by omega,by omega,by rw [List.length_append]; omega,fun c hc=>?_,List.pairwise_append.2 ⟨g4',g9,fun p hp q hq=>?_⟩,fun who=>?_⟩
  ·rcases List.mem_append.1 hc with hc | hc
   ·obtain ⟨q1,q2,_⟩:=g4 c hc
    exact ⟨by rw [q1]; simp,q2⟩
   ·obtain ⟨q1,q2⟩:=g8 c hc
    exact ⟨List.mem_cons_of_mem _ q1,q2⟩
  ·rw [CR]
   refine .inl ?_
   rw [(g4 p hp).1]
   exact h4.1 _ (g8 q hq).1
  ·have h5:=g10 who
   rw [List.filter_append,List.length_append,List.filter_cons]
   by_cases hw : w = who
   ·have h6:=List.length_filter_le (fun c : Es=>decide (c.Who = who)) z1
    rw [if_pos (decide_eq_true hw),List.length_cons]
    omega
   ·have h6 : (z1.filter fun c=>decide (c.Who = who)) = []:=List.filter_eq_nil_iff.2 fun c hc=>by rw [(g4 c hc).1]; simpa using hw
    rw [if_neg (by simpa using hw),h6,List.length_nil]
    omega
theorem JA {a : Int} (h0 : 0 ≤ a) (h1 : a ≤ 1000000) (items : List Ed) (hi : items.length ≤ 5) (hh : ∀ y ∈ items,1 ≤ y.Heats) (hd : items.Pairwise fun a b=>a.Key ≠ b.Key) :
  Dr a 30 (fun x=>x.length ≤ 15 ∧ (∀ c ∈ x,c.Who ∈ [Pi,Pj,Pk] ∧ IZ items c) ∧ (x.Pairwise fun a b=>cC a b < 0) ∧ ∀ who,(x.filter fun c=>decide (c.Who = who)).length ≤ 12) (Ma L a items):=by
 unfold Ma
 rw [Lv]
 obtain ⟨z,b,e,g1,g2,g3,g4,g5,g6⟩:=GC hL items hi hh hd [Pi,Pj,Pk] 0 [] a h0 (by simp; omega) (by simp) (by decide +kernel)
 rw [List.nil_append] at e
 exact ⟨z,b,e,g1,by simp at g2; omega,by simp at g3; omega,g4,g5,fun who=>by have:=g6 who; have:=IU who; omega⟩
end
theorem JB : ∀ {l : List Ed} {y : Ed},y ∈ l → (l.Pairwise fun a b=>a.Key ≠ b.Key) → ∃ k,ixN l y.Key = some k ∧ l[k]? = some y
 | [],_,h,_=>by cases h
 | x :: xs,y,h,hd=>by
  rw [List.pairwise_cons] at hd
  rcases List.mem_cons.1 h with rfl | h
  ·exact ⟨0,by rw [ixN,if_pos rfl],rfl⟩
  ·obtain ⟨k,h1,h2⟩:=JB h hd.2
   exact ⟨k + 1,by rw [ixN,if_neg (hd.1 y h),h1]; rfl,by simpa using h2⟩
theorem JC {s : ByteArray} (h : s ∈ [Pi,Pj,Pk]) : Js s = some true:=by
 simp only [List.mem_cons,List.not_mem_nil,or_false] at h
 rcases h with rfl | rfl | rfl <;> decide +kernel
theorem cadj_of {l : List Es} (h : l.Pairwise fun a b=>cC a b < 0) : GT l:=by
 intro dn p q ys e
 rw [e,List.pairwise_append,List.pairwise_cons] at h
 exact h.2.1.1 q (by simp)
theorem JD (items : List Ed) (hi : items.length ≤ 100) (l : List Es) (hl : l.length ≤ 2000) (hk : ∀ c ∈ l,Js c.Who = some true) (hcv : ∀ c ∈ l,∃ k y,CV items c k y) (ha : GT l) : ∀ (ys dn : List Es),l = dn ++ ys → Ht items l (some 0) ys dn.length = some 0
 | [],_,_=>rfl
 | p :: ys,dn,e=>by
  have hlen : l.length = dn.length + (ys.length + 1):=by rw [e]; simp
  have hp : p ∈ l:=by rw [e]; simp
  obtain ⟨k,y,h⟩:=hcv p hp
  have hn : nth items (k : Int) = y:=Xp h.get
  have hkl:=AD h.ix
  have hix : Ef items p.Item = (k : Int):=by rw [Zh]; unfold ixI; rw [h.ix]
  have hin : Ev p.Heat 1 y.Heats = true:=by
   have:=h.h1; have:=h.h2
   unfold Ev
   simp only [Bool.and_eq_true,decide_eq_true_eq]
   omega
  have ih:=JD items hi l hl hk hcv ha ys (dn ++ [p]) (by rw [e]; simp)
  rw [List.length_append,List.length_singleton] at ih
  rw [Ht,hk p hp]
  simp only [Option.bind_some,Bool.not_true,Bool.false_eq_true,if_false,Lv]
  rw [hix,if_neg (by simp),My (Ja.2 ⟨by omega,by omega⟩),hn,hin,ih]
  simp only [Bool.not_true,Bool.false_eq_true,if_false]
  rcases List.eq_nil_or_concat dn with hd | ⟨d,q,hd⟩
  ·rw [hd]; simp
  ·rw [List.concat_eq_append] at hd
   have hdl : dn.length = d.length + 1:=by rw [hd]; simp
   have hnq : nth l (W ((dn.length : Int) - 1)) = q:=by
    rw [Oq (by omega) (by omega),e,hd]
    have : d ++ [q] ++ p :: ys = d ++ q :: (p :: ys):=by simp
    rw [this]
    exact Zj _ _ _ (by simp)
   have hlt:=ha d q p ys (by rw [e,hd]; simp)
   rw [if_pos (decide_eq_true (by omega)),My (Ja.2 (by rw [Oq (by omega) (by omega)]; omega)),hnq,Yz,decide_eq_false (show ¬ 0 ≤ cC q p by omega)]
   simp
theorem pass (items : List Ed) (hc : Ik items = some 0) (hi : items.length ≤ 100) (l : List Es) (hl : l.length ≤ 2000) (hk : ∀ c ∈ l,Js c.Who = some true) (hcv : ∀ c ∈ l,∃ k y,CV items c k y) (ha : GT l) : Ko items l = some 0:=by
 unfold Ko
 rw [hc]
 simp only [Option.bind_some,decide_true,Bool.not_true,Bool.false_eq_true,if_false]
 rw [if_neg (by simp; omega),Lv]
 exact JD items hi l hl hk hcv ha l [] rfl
theorem nt_le : ∀ (l : List Ed) (t : Int),(∀ x ∈ l,Oa x) → nt l t ≤ t + l.length * 500000000
 | [],t,_=>by simp [nt]
 | y :: ys,t,hg=>by
  have hy:=hg y (by simp)
  have h1:=Qr y hy y.Heats.toNat t
  have h2:=nt_le ys (Sa y y.Heats.toNat t + y.Break) fun x hx=>hg x (List.mem_cons_of_mem _ hx)
  unfold Oa at hy
  rw [nt]
  simp only [List.length_cons]
  push_cast
  omega
theorem JE (l : List Ed) (t : Int) (hg : ∀ x ∈ l,Oa x) (hl : l.length ≤ 5) (h0 : 0 ≤ t) (h1 : t ≤ 1000) : Ow l t = some (tt l t,0):=by
 unfold Ow
 have hm : It t = true:=by
  unfold It
  simp only [Bool.and_eq_true,decide_eq_true_eq]
  omega
 have hlen:=AC l t hg
 rw [hm,Ud l t hg (by omega) h0 (by omega)]
 simp only [Option.bind_some,Bool.not_true,Bool.false_eq_true,if_false]
 rw [ER _ _ (by omega)]
 simp only [Option.bind_some]
 have h2:=(AK l t hg).2
 have h3:=nt_le l t hg
 rw [if_neg (by simp; omega)]
end Go.Proofs.YtcgffkkagmkhkaaGreatDoor
namespace Go.Proofs.YtcgffkkagmkhkaaGreatDoor
open Go
abbrev Rows:=List (List Ei)
def Rf (items : List Ed) (need : Int) (p : Option ByteArray) (c : Es) (s : Int × Rows) : Int × Rows :=
 let x3:=if p = some c.Who then s.2 else s.2 ++ [List.replicate items.length (Ei.mk 0 0)]
 let k:=Ef items c.Item
 let row:=nth x3 ((x3.length : Int) - 1)
 (if (nth row k).last_ = 0 then s.1 else if (W ((W ((W ((W (c.Heat - (nth row k).last_)) - 1)) * (nth items k).Long)) + (W ((W (c.Heat - (nth row k).last_)) * (nth items k).Gap)))) < need then W (s.1 + 1) else s.1,
  x3.set (x3.length - 1) (row.set k.toNat (Ei.mk (if (nth row k).last_ = 0 then c.Heat else (nth row k).first_) c.Heat)))
def Xr (items : List Ed) (need : Int) : Option ByteArray → List Es → Int × Rows → Int × Rows
 | _,[],s=>s
 | p,c :: cs,s=>Xr items need (some c.Who) cs (Rf items need p c s)
def AV (n : Nat) (s : Rows) : Prop:=∀ row ∈ s,row.length = n
theorem GD {α : Type} [Inhabited α] {l : List α} {i : Int} (h0 : 0 ≤ i) (h : i < l.length) : nth l i ∈ l:=by
 have h1:=(El (l:=l) (e:=i) (Ja.2 ⟨h0,h⟩)).1
 exact List.mem_of_getElem? h1
theorem EX {items : List Ed} {need : Int} {p : Option ByteArray} {c : Es} {s : Int × Rows} (hs : AV items.length s.2) (hp : p ≠ none → s.2 ≠ []) : AV items.length (Rf items need p c s).2 ∧ (Rf items need p c s).2 ≠ [] ∧ (Rf items need p c s).2.length ≤ s.2.length + 1 ∧
  AV items.length (if p = some c.Who then s.2 else s.2 ++ [List.replicate items.length (Ei.mk 0 0)]) ∧ 0 < (if p = some c.Who then s.2 else s.2 ++ [List.replicate items.length (Ei.mk 0 0)]).length ∧ (if p = some c.Who then s.2 else s.2 ++ [List.replicate items.length (Ei.mk 0 0)]).length ≤ s.2.length + 1:=by
 have hA : AV items.length (if p = some c.Who then s.2 else s.2 ++ [List.replicate items.length (Ei.mk 0 0)]):=by
  split
  ·exact hs
  ·intro row hr
   rcases List.mem_append.1 hr with hr | hr
   ·exact hs row hr
   ·rw [List.mem_singleton] at hr; subst hr; simp
 have hL : 0 < (if p = some c.Who then s.2 else s.2 ++ [List.replicate items.length (Ei.mk 0 0)]).length:=by
  split
  ·rename_i h
   exact List.length_pos_iff.2 (hp (by rw [h]; simp))
  ·simp
 have hM : (if p = some c.Who then s.2 else s.2 ++ [List.replicate items.length (Ei.mk 0 0)]).length ≤ s.2.length + 1:=by
  split <;> simp
 unfold Rf
 simp only
 generalize (if p = some c.Who then s.2 else s.2 ++ [List.replicate items.length (Ei.mk 0 0)]) = x3 at *
 refine ⟨fun row hr=>?_,?_,by rw [List.length_set]; exact hM,hA,hL,hM⟩
 ·rcases List.mem_or_eq_of_mem_set hr with hr | rfl
  ·exact hA row hr
  ·rw [List.length_set]
   exact hA _ (GD (by omega) (by omega))
 ·intro e
  have:=congrArg List.length e
  simp only [List.length_set,List.length_nil] at this
  omega
theorem new_l {items : List Ed} {l : List Es} {need : Int} (hi : items.length ≤ 1000) (hl : l.length ≤ 2000) (hk : ∀ c ∈ l,0 ≤ Ef items c.Item ∧ Ef items c.Item < (items.length : Int)) (j : Int → Rows → Option (Int × Rows)) :
  ∀ (ys dn : List Es) (p : Option ByteArray) (s : Int × Rows),l = dn ++ ys → ((dn = [] ∧ p = none) ∨ ∃ d q,dn = d ++ [q] ∧ p = some q.Who) → AV items.length s.2 → (p ≠ none → s.2 ≠ []) → s.2.length ≤ dn.length →
   Gc items l need j ys dn.length s.1 s.2 = j (Xr items need p ys s).1 (Xr items need p ys s).2 ∧ AV items.length (Xr items need p ys s).2 ∧ (Xr items need p ys s).2.length ≤ dn.length + ys.length
 | [],dn,p,s,_,_,hs,_,hn=>⟨rfl,hs,by simpa [Xr] using hn⟩
 | y :: ys,dn,p,s,e,hp,hs,hq,hn=>by
  have hlen : l.length = dn.length + (ys.length + 1):=by rw [e]; simp
  obtain ⟨k0,k1⟩:=hk y (by rw [e]; simp)
  obtain ⟨g1,g2,g3,g4,g5,g6⟩:=EX (need:=need) (c:=y) hs hq
  obtain ⟨r1,r2,r3⟩:=new_l hi hl hk j ys (dn ++ [y]) (some y.Who) (Rf items need p y s) (by rw [e]; simp) (.inr ⟨dn,y,rfl,rfl⟩) g1 (fun _=>g2) (by rw [List.length_append,List.length_singleton]; omega)
  rw [List.length_append,List.length_singleton] at r1 r3
  refine ⟨?_,r2,by rw [Xr]; simp only [List.length_cons]; omega⟩
  rw [Gc,Xr,← r1]
  simp only [Lv]
  have last : ∀ x3 : Rows,AV items.length x3 → 0 < x3.length → x3.length ≤ 3000 → x3 = (if p = some y.Who then s.2 else s.2 ++ [List.replicate items.length (Ei.mk 0 0)]) →
    (Chk (inB (W ((x3.length : Int) - 1)) x3.length) (Chk (inB (Ef items y.Item) (nth x3 (W ((x3.length : Int) - 1))).length) (
     if decide ((nth (nth x3 (W ((x3.length : Int) - 1))) (Ef items y.Item)).last_ = 0) then
      Gc items l need j ys (dn.length + 1) s.1 (x3.set (W ((x3.length : Int) - 1)).toNat ((nth x3 (W ((x3.length : Int) - 1))).set (Ef items y.Item).toNat (Ei.mk (if decide ((nth (nth x3 (W ((x3.length : Int) - 1))) (Ef items y.Item)).last_ = 0) then y.Heat else (nth (nth x3 (W ((x3.length : Int) - 1))) (Ef items y.Item)).first_) y.Heat)))
     else Chk (inB (Ef items y.Item) items.length) (
      if decide ((W ((W ((W ((W (y.Heat - (nth (nth x3 (W ((x3.length : Int) - 1))) (Ef items y.Item)).last_)) - 1)) * (nth items (Ef items y.Item)).Long)) + (W ((W (y.Heat - (nth (nth x3 (W ((x3.length : Int) - 1))) (Ef items y.Item)).last_)) * (nth items (Ef items y.Item)).Gap)))) < need) then
       Gc items l need j ys (dn.length + 1) (W (s.1 + 1)) (x3.set (W ((x3.length : Int) - 1)).toNat ((nth x3 (W ((x3.length : Int) - 1))).set (Ef items y.Item).toNat (Ei.mk (if decide ((nth (nth x3 (W ((x3.length : Int) - 1))) (Ef items y.Item)).last_ = 0) then y.Heat else (nth (nth x3 (W ((x3.length : Int) - 1))) (Ef items y.Item)).first_) y.Heat)))
      else Gc items l need j ys (dn.length + 1) s.1 (x3.set (W ((x3.length : Int) - 1)).toNat ((nth x3 (W ((x3.length : Int) - 1))).set (Ef items y.Item).toNat (Ei.mk (if decide ((nth (nth x3 (W ((x3.length : Int) - 1))) (Ef items y.Item)).last_ = 0) then y.Heat else (nth (nth x3 (W ((x3.length : Int) - 1))) (Ef items y.Item)).first_) y.Heat)))))))
    = Gc items l need j ys (dn.length + 1) (Rf items need p y s).1 (Rf items need p y s).2:=by
   intro x3 hx hx0 hx1 hx2
   have hw : W ((x3.length : Int) - 1) = (x3.length : Int) - 1:=Oq (by omega) (by omega)
   have ht : ((x3.length : Int) - 1).toNat = x3.length - 1:=by omega
   unfold Rf
   simp only
   rw [← hx2,hw,My (Ja.2 (by omega)),My (Ja.2 (by rw [hx _ (GD (by omega) (by omega))]; omega)),ht]
   by_cases c1 : (nth (nth x3 ((x3.length : Int) - 1)) (Ef items y.Item)).last_ = 0
   ·simp only [c1,decide_true,if_true]
   ·simp only [c1,decide_false,Bool.false_eq_true,if_false]
    rw [My (Ja.2 (by omega))]
    by_cases c2 : (W ((W ((W ((W (y.Heat - (nth (nth x3 ((x3.length : Int) - 1)) (Ef items y.Item)).last_)) - 1)) * (nth items (Ef items y.Item)).Long)) + (W ((W (y.Heat - (nth (nth x3 ((x3.length : Int) - 1)) (Ef items y.Item)).last_)) * (nth items (Ef items y.Item)).Gap)))) < need
    ·rw [if_pos (decide_eq_true c2),if_pos c2]
    ·rw [if_neg (by simpa using c2),if_neg c2]
  have yes : p ≠ some y.Who → (Chk (decide (0 ≤ (items.length : Int)) && decide ((items.length : Int) < 1073741824)) (Chk (Qa s.2.length) (
    (fun (x3 : Rows)=>Chk (inB (W ((x3.length : Int) - 1)) x3.length) (Chk (inB (Ef items y.Item) (nth x3 (W ((x3.length : Int) - 1))).length) (
     if decide ((nth (nth x3 (W ((x3.length : Int) - 1))) (Ef items y.Item)).last_ = 0) then
      Gc items l need j ys (dn.length + 1) s.1 (x3.set (W ((x3.length : Int) - 1)).toNat ((nth x3 (W ((x3.length : Int) - 1))).set (Ef items y.Item).toNat (Ei.mk (if decide ((nth (nth x3 (W ((x3.length : Int) - 1))) (Ef items y.Item)).last_ = 0) then y.Heat else (nth (nth x3 (W ((x3.length : Int) - 1))) (Ef items y.Item)).first_) y.Heat)))
     else Chk (inB (Ef items y.Item) items.length) (
      if decide ((W ((W ((W ((W (y.Heat - (nth (nth x3 (W ((x3.length : Int) - 1))) (Ef items y.Item)).last_)) - 1)) * (nth items (Ef items y.Item)).Long)) + (W ((W (y.Heat - (nth (nth x3 (W ((x3.length : Int) - 1))) (Ef items y.Item)).last_)) * (nth items (Ef items y.Item)).Gap)))) < need) then
       Gc items l need j ys (dn.length + 1) (W (s.1 + 1)) (x3.set (W ((x3.length : Int) - 1)).toNat ((nth x3 (W ((x3.length : Int) - 1))).set (Ef items y.Item).toNat (Ei.mk (if decide ((nth (nth x3 (W ((x3.length : Int) - 1))) (Ef items y.Item)).last_ = 0) then y.Heat else (nth (nth x3 (W ((x3.length : Int) - 1))) (Ef items y.Item)).first_) y.Heat)))
      else Gc items l need j ys (dn.length + 1) s.1 (x3.set (W ((x3.length : Int) - 1)).toNat ((nth x3 (W ((x3.length : Int) - 1))).set (Ef items y.Item).toNat (Ei.mk (if decide ((nth (nth x3 (W ((x3.length : Int) - 1))) (Ef items y.Item)).last_ = 0) then y.Heat else (nth (nth x3 (W ((x3.length : Int) - 1))) (Ef items y.Item)).first_) y.Heat)))))))
     (s.2 ++ [List.replicate ((items.length : Int).toNat) (Ei.mk 0 0)]))))
    = Gc items l need j ys (dn.length + 1) (Rf items need p y s).1 (Rf items need p y s).2:=fun hne=>by
   rw [My (by simp; omega),My (by unfold Qa; simp; omega)]
   rw [if_neg hne] at g4 g5 g6
   rw [Int.toNat_natCast]
   exact last _ g4 g5 (by omega) (by rw [if_neg hne])
  rcases hp with ⟨rfl,rfl⟩ | ⟨d,q,rfl,rfl⟩
  ·rw [if_pos (by simp),if_pos (by simp)]
   exact yes (by simp)
  ·have hdl : (d ++ [q]).length = d.length + 1:=by simp
   have hw : W (((d ++ [q]).length : Int) - 1) = (d.length : Int):=by rw [Oq (by omega) (by omega),hdl]; omega
   have hnq : nth l (d.length : Int) = q:=Xp (by rw [e]; simp)
   rw [if_neg (by simp only [decide_eq_true_eq]; omega),hw,My (Ja.2 (by omega)),hnq]
   have hd0 : decide (((d ++ [q]).length : Int) = 0) = false:=decide_eq_false (by omega)
   rw [hd0,Bool.false_or]
   by_cases hw2 : q.Who = y.Who
   ·rw [if_neg (by simp [hw2])]
    rw [if_pos (by rw [hw2])] at g4 g5 g6
    exact last _ g4 g5 (by omega) (by rw [if_pos (by rw [hw2])])
   ·rw [if_pos (by simp [hw2])]
    exact yes (by simp [hw2])
theorem CW {items : List Ed} {l : List Es} {need : Int} (hi : items.length ≤ 1000) (hl : l.length ≤ 2000) (hk : ∀ c ∈ l,0 ≤ Ef items c.Item ∧ Ef items c.Item < (items.length : Int)) :
  Ng items l need = some (Xr items need none l (0,[])) ∧ AV items.length (Xr items need none l (0,[])).2 ∧ (Xr items need none l (0,[])).2.length ≤ l.length:=by
 obtain ⟨h1,h2,h3⟩:=new_l hi hl hk (fun x1 x2=>some (x1,x2)) l [] none (0,[]) rfl (.inl ⟨rfl,rfl⟩) (fun _ h=>by cases h) (fun h=>absurd rfl h) (Nat.le_refl _)
 refine ⟨?_,h2,by simpa using h3⟩
 unfold Ng
 rw [Lv]
 exact h1
section leaf
variable (items : List Ed) (need : Int)
def GX : List Int → List Int → Int → Int → List Int × Int
 | [],fr,_,en=>(fr,en)
 | k :: ks,fr,at_,_=>GX ks (fr.set k.toNat at_) (W ((W ((W (at_ + (Hy (nth items k) ((nth items k).Heats)))) + ((nth items k).Long))) + ((nth items k).Break))) (W ((W (at_ + (Hy (nth items k) ((nth items k).Heats)))) + ((nth items k).Long)))
theorem EA : ∀ (ks fr : List Int) (a e : Int),(GX items ks fr a e).1.length = fr.length
 | [],_,_,_=>rfl
 | k :: ks,fr,a,e=>by rw [GX,EA ks]; simp
def InR (n : Nat) (l : List Int) : Prop:=∀ k ∈ l,0 ≤ k ∧ k < (n : Int)
theorem JF (j : List Int → Int → Option ((List Int) × Int × Int × Bool)) : ∀ (ks : List Int) (i : Nat) (fr : List Int) (a e : Int),InR items.length ks → fr.length = items.length → La items j ks i fr a e = j (GX items ks fr a e).1 (GX items ks fr a e).2
 | [],_,_,_,_,_,_=>rfl
 | k :: ks,i,fr,a,e,hk,hf=>by
  obtain ⟨h0,h1⟩:=hk k (by simp)
  rw [La,My (Ja.2 ⟨h0,h1⟩),My (Ja.2 ⟨h0,by omega⟩),JF j ks (i + 1) _ _ _ (fun z hz=>hk z (by simp [hz])) (by simpa using hf)]
  rfl
def EB (row : List Ei) (fr : List Int) : List Int → Int → Int → Int
 | [],s,_=>s
 | k :: ks,s,la=>if (nth row k).last_ = 0 then EB row fr ks s la else
  EB row fr ks (if 0 ≤ la ∧ W ((W ((nth fr k) + (Hy (nth items k) ((nth row k).first_)))) - la) < need then W (s + 1) else s) (W ((W ((nth fr k) + (Hy (nth items k) ((nth row k).last_)))) + ((nth items k).Long)))
theorem JG (row : List Ei) (fr : List Int) (hr : row.length = items.length) (hf : fr.length = items.length) (j : Int → Option ((List Int) × Int × Int × Bool)) : ∀ (ks : List Int) (i : Nat) (s la : Int),InR items.length ks → Lb row fr items need j ks i s la = j (EB items need row fr ks s la)
 | [],_,_,_,_=>rfl
 | k :: ks,i,s,la,hk=>by
  obtain ⟨h0,h1⟩:=hk k (by simp)
  have ih:=fun s la=>JG row fr hr hf j ks (i + 1) s la (fun z hz=>hk z (by simp [hz]))
  have c1 : inB k row.length = true:=Ja.2 ⟨h0,by omega⟩
  have c2 : inB k fr.length = true:=Ja.2 ⟨h0,by omega⟩
  have c3 : inB k items.length = true:=Ja.2 ⟨h0,h1⟩
  rw [Lb,EB]
  simp only [Lv,My c1,My c2,My c3,ih]
  by_cases hl : (nth row k).last_ = 0
  ·rw [if_pos (decide_eq_true hl),if_pos hl]
  ·rw [if_neg (by simpa using hl),if_neg hl]
   by_cases hc : 0 ≤ la ∧ W ((W ((nth fr k) + (Hy (nth items k) ((nth row k).first_)))) - la) < need
   ·rw [if_pos (by simpa using hc),if_pos hc]
   ·rw [if_neg (by simpa using hc),if_neg hc]
def JH (fr now : List Int) : Rows → Int → Int
 | [],s=>s
 | row :: rows,s=>JH fr now rows (EB items need row fr now s (-1))
theorem JI (fr now : List Int) (hf : fr.length = items.length) (hn : InR items.length now) (j : Int → Option ((List Int) × Int × Int × Bool)) : ∀ (rows : Rows) (i : Nat) (s : Int),AV items.length rows → Lc fr items need now j rows i s = j (JH items need fr now rows s)
 | [],_,_,_=>rfl
 | row :: rows,i,s,h=>by
  rw [Lc,Lv,JG items need row fr (h row (by simp)) hf _ now 0 s (-1) hn,JI fr now hf hn j rows (i + 1) _ (fun z hz=>h z (by simp [hz]))]
  rfl
def GE (within : Int) (rows : Rows) (now : List Int) : Int × Int :=
 let fe:=GX items now (List.replicate items.length 0) 0 0
 (JH items need fe.1 now rows within,fe.2)
end leaf
abbrev Acc:=(List Int) × Int × Int × Bool
def AM (a : Acc) (now : List Int) (v : Int × Int) : Acc:=if a.2.2.2 = false ∨ v.1 < a.2.1 ∨ (v.1 = a.2.1 ∧ v.2 < a.2.2.1) then (now,v.1,v.2,true) else a
def EC (f : List Int → List Int → Acc → Acc) (now rest : List Int) : List Int → Nat → Acc → Acc
 | [],_,a=>a
 | y :: ys,i,a=>EC f now rest ys (i + 1) (f (now ++ [y]) (rest.eraseIdx i) a)
def Za (leaf : List Int → Int × Int) : Nat → List Int → List Int → Acc → Acc
 | 0,_,_,a=>a
 | m + 1,now,rest,a=>if rest = [] then AM a now (leaf now) else EC (Za leaf m) now rest rest 0 a
theorem EY {a b : List Int} (h : a.length + b.length ≤ 1000000) : Nh [a,b] = some (a ++ b):=by
 unfold Nh
 rw [Lv,Hl,Oq (by omega) (by omega),if_neg (by simp only [decide_eq_true_eq]; omega),Hl,Oq (by omega) (by omega),if_neg (by simp only [decide_eq_true_eq]; omega),Hl]
 unfold Ql
 rw [My (by simp; omega),Option.bind_some,Lv,Hm,My (by simp; omega),Hm,My (by simp; omega),Hm]
 simp
theorem GY (l : List Int) (i : Nat) (h : i < l.length) : cut l 0 (i : Int) ++ cut l ((i : Int) + 1) (l.length : Int) = l.eraseIdx i:=by
 unfold cut
 rw [show (0 : Int).toNat = 0 from rfl,List.drop_zero,Int.toNat_natCast,Int.toNat_natCast,List.take_length,show ((i : Int) + 1).toNat = i + 1 by omega,List.eraseIdx_eq_take_drop_succ]
theorem ED {n : Nat} {l : List Int} (h : InR n l) (i : Nat) : InR n (l.eraseIdx i):=fun k hk=>h k (List.mem_of_mem_eraseIdx hk)
theorem GZ (a : Acc) (now : List Int) (s e : Int) : ((if !a.2.2.2 then (if true then some (now,s,e,true) else some (a.1,a.2.1,a.2.2.1,a.2.2.2)) else (if decide ((Nm [(Gg s a.2.1),(Gg e a.2.2.1)]) < 0) then some (now,s,e,true) else some (a.1,a.2.1,a.2.2.1,a.2.2.2))) : Option Acc) = some (AM a now (s,e)):=by
 unfold AM
 obtain ⟨b,sh,en,f⟩:=a
 cases f with
 | false=>simp
 | true =>
  simp only [Bool.not_true,Bool.false_eq_true,if_false,orc2,IJ]
  by_cases h1 : s < sh
  ·simp [h1]
  ·by_cases h2 : sh < s
   ·have : ¬ s = sh:=by omega
    simp [h1,h2,this]
   ·have h3 : s = sh:=by omega
    by_cases h4 : e < en
    ·simp [h3,h4]
    ·by_cases h5 : en < e
     ·simp [h4,h5,h3]
     ·simp [h4,h5,h3]
theorem JJ {items : List Ed} {within need : Int} {rows : Rows} (hi : items.length ≤ 1000) (hr : AV items.length rows) : ∀ (m : Nat) (now rest : List Int) (a : Acc),rest.length < m → InR items.length now → InR items.length rest → now.length + rest.length ≤ 1000 →
  Mv m items within rows need a.1 a.2.1 a.2.2.1 a.2.2.2 now rest = some (Za (GE items need within rows) m now rest a)
 | 0,_,_,_,h,_,_,_=>absurd h (by omega)
 | m + 1,now,rest,a,hm,hn,hre,hlen=>by
  rw [Mv]
  unfold Sc
  rw [Za]
  by_cases h0 : rest = []
  ·subst h0
   rw [if_neg (by simp),if_pos rfl,My (by simp; omega)]
   simp only [Lv,Int.toNat_natCast]
   rw [JF items _ now 0 _ 0 0 hn (by simp),JI items need _ now (by rw [EA]; simp) hn _ rows 0 within hr]
   exact GZ a now _ _
  ·rw [if_neg h0,if_pos (by have:=List.length_pos_iff.2 h0; simp only [decide_eq_true_eq]; omega)]
   simp only [Lv]
   have loop : ∀ (ys dn : List Int) (b : Acc),rest = dn ++ ys → Kz now rest (Mv m) items within rows need (fun x1 x2 x3 x4=>some (x4,x1,x2,x3)) ys dn.length b.2.1 b.2.2.1 b.2.2.2 b.1 = some (EC (Za (GE items need within rows) m) now rest ys dn.length b):=by
    intro ys
    induction ys with
    | nil=>intro dn b _; rfl
    | cons y ys ih =>
     intro dn b e
     have hl : rest.length = dn.length + (ys.length + 1):=by rw [e]; simp
     have hel:=List.length_eraseIdx_of_lt (l:=rest) (i:=dn.length) (by omega)
     rw [Kz]
     simp only [Lv]
     unfold Ps
     rw [My (by simp; omega),Option.bind_some,List.nil_append,My (by unfold Qa; simp; omega),My (Uh.2 (by omega)),Oq (by omega) (by omega),My (Uh.2 (by omega)),EY (by simp [cut]; omega),Option.bind_some,GY rest dn.length (by omega)]
     rw [JJ hi hr m (now ++ [y]) (rest.eraseIdx dn.length) b (by omega) (fun k hk=>by
      rcases List.mem_append.1 hk with hk | hk
      ·exact hn k hk
      ·rw [List.mem_singleton] at hk; subst hk; exact hre k (by rw [e]; simp)) (ED hre _) (by rw [List.length_append,List.length_singleton]; omega),Option.bind_some]
     have:=ih (dn ++ [y]) (Za (GE items need within rows) m (now ++ [y]) (rest.eraseIdx dn.length) b) (by rw [e]; simp)
     rw [List.length_append,List.length_singleton] at this
     rw [EC]
     exact this
   exact loop rest [] a rfl
theorem GF {n : Nat} (leaf : List Int → Int × Int) : ∀ (m : Nat) (now rest : List Int) (a : Acc),InR n now → InR n rest → InR n a.1 → InR n (Za leaf m now rest a).1
 | 0,_,_,_,_,_,h=>h
 | m + 1,now,rest,a,hn,hr,ha=>by
  rw [Za]
  split
  ·unfold AM
   split
   ·exact hn
   ·exact ha
  ·have loop : ∀ (ys dn : List Int) (b : Acc),rest = dn ++ ys → InR n b.1 → InR n (EC (Za leaf m) now rest ys dn.length b).1:=by
    intro ys
    induction ys with
    | nil=>intro dn b _ hb; exact hb
    | cons y ys ih =>
     intro dn b e hb
     rw [EC]
     have h1:=GF leaf m (now ++ [y]) (rest.eraseIdx dn.length) b (fun k hk=>by
      rcases List.mem_append.1 hk with hk | hk
      ·exact hn k hk
      ·rw [List.mem_singleton] at hk; subst hk; exact hr k (by rw [e]; simp)) (ED hr _) hb
     have:=ih (dn ++ [y]) _ (by rw [e]; simp) h1
     rw [List.length_append,List.length_singleton] at this
     exact this
   exact loop rest [] a rfl ha
end Go.Proofs.YtcgffkkagmkhkaaGreatDoor
namespace Go.Proofs.YtcgffkkagmkhkaaGreatDoor
open Go
def ltK (x y : Ed) : Bool:=decide (Kr x y < 0)
theorem len_o : ∀ n : Fin 13,(Sj (IntKind.wrap .u64 (n.val : Int))).isSome = true:=by decide +kernel
theorem HA (l : List Ed) (hl : l.length ≤ 12) : Gm l 0 (l.length : Int) = some (Lw ltK l):=by
 unfold Gm
 simp only [Lv]
 have hins : ∀ (k : List Ed → Option (List Ed)) (rp : List Ed) (x : Ed) (post : List Ed),((rp ++ x :: post).length : Int) = (l.length : Int) → (∀ y,y ∈ rp ∨ y = x ∨ y ∈ post → y ∈ (rp ++ x :: post)) →
   Eu 0 k (((rp.length : Int) - 0).toNat + 2) (rp.reverse ++ x :: post) (rp.length : Int) = k ((Sy ltK x rp).reverse ++ post):=by
  intro k rp x post h1 _
  exact FU (fun x y k=>k (ltK x y)) ltK k (Eu 0 k) (fun _ _ _=>rfl) rp x post _ (by omega) (by simp at h1; omega) fun y _ k'=>rfl
 cases l with
 | nil=>rfl
 | cons x l =>
  have hw : W (0 + 1) = (([x] : List Ed).length : Int):=rfl
  rw [hw]
  exact Zk ltK (fun x=>some x) (fun k x i=>Eu 0 k ((i - 0).toNat + 2) x i) (Fa ((x :: l).length : Int) 0 fun x=>some x) ((x :: l).length : Int) (fun _ _ _=>rfl)
   (fun k rp x post h1 h2=>hins k rp x post h1 h2) l [x] _ (by simp only [List.length_cons,List.length_nil]; omega) (by simp only [List.length_cons,List.length_nil]; omega) (by simp only [List.length_cons,List.length_nil] at hl ⊢; omega)
theorem JK (l : List Ed) (hl : l.length ≤ 12) : Hq l = some (Lw ltK l):=by
 unfold Hq
 obtain ⟨r,hr⟩:=Option.isSome_iff_exists.1 (len_o ⟨l.length,by omega⟩)
 simp only at hr
 rw [hr]
 simp only [Option.bind_some]
 unfold Hw
 rw [show (4611686018427387904 : Nat) = 4611686018427387903 + 1 from rfl,Fq,Oq (by omega) (by omega),if_pos (decide_eq_true (by omega)),HA l hl]
 rfl
theorem EE : ∀ {l : List Ed} {key : ByteArray},(∃ y ∈ l,y.Key = key) → ∃ k,ixN l key = some k
 | [],_,⟨_,h,_⟩=>by cases h
 | x :: l,key,⟨y,hy,hk⟩=>by
  rw [ixN]
  by_cases h : x.Key = key
  ·exact ⟨0,by rw [if_pos h]⟩
  ·rcases List.mem_cons.1 hy with rfl | hy
   ·exact absurd hk h
   ·obtain ⟨k,e⟩:=EE ⟨y,hy,hk⟩
    exact ⟨k + 1,by rw [if_neg h,e]; rfl⟩
theorem HB {l : List Ed} {key : ByteArray} (h : ∃ y ∈ l,y.Key = key) : 0 ≤ Ef l key ∧ Ef l key < (l.length : Int):=by
 obtain ⟨k,e⟩:=EE h
 have:=AD e
 rw [Zh]
 unfold ixI
 rw [e]
 simp only
 omega
def EF (i n : Nat) : List Int:=(List.range' i n).map fun k : Nat=>(k : Int)
theorem EG (j : List Int → Option ((List ByteArray) × Int × Int)) : ∀ (ys : List Ed) (i : Nat) (x : List Int),x.length + ys.length ≤ 1000 → Jh j ys i x = j (x ++ EF i ys.length)
 | [],_,x,_=>by rw [Jh]; simp [EF]
 | y :: ys,i,x,h=>by
  simp only [List.length_cons] at h
  rw [Jh,My (by unfold Qa; simp; omega),EG j ys (i + 1) _ (by simp; omega)]
  simp [EF,List.range'_succ]
theorem EH (s : List Ed) (j : List ByteArray → Option ((List ByteArray) × Int × Int)) : ∀ (ys : List Int) (i : Nat) (x : List ByteArray),InR s.length ys → x.length + ys.length ≤ 1000 → Ip s j ys i x = j (x ++ ys.map fun k=>(nth s k).Key)
 | [],_,x,_,_=>by rw [Ip]; simp
 | y :: ys,i,x,hk,h=>by
  obtain ⟨h0,h1⟩:=hk y (by simp)
  simp only [List.length_cons] at h
  rw [Ip,My (Ja.2 ⟨h0,h1⟩),My (by unfold Qa; simp; omega),EH s j ys (i + 1) _ (fun z hz=>hk z (by simp [hz])) (by simp; omega)]
  simp
theorem GG (n : Nat) : InR n (EF 0 n):=fun k hk=>by
 obtain ⟨q,hq,rfl⟩:=List.mem_map.1 hk
 have:=List.mem_range'_1.1 hq
 omega
theorem AN (i n : Nat) : (EF i n).length = n:=by simp [EF]
theorem EI (leaf : List Int → Int × Int) : ∀ (m : Nat) (now rest : List Int) (a : Acc) (b : Nat),a.1.length ≤ b → now.length + rest.length ≤ b → (Za leaf m now rest a).1.length ≤ b
 | 0,_,_,_,_,h,_=>h
 | m + 1,now,rest,a,b,ha,hb=>by
  rw [Za]
  split
  ·unfold AM
   split
   ·show now.length ≤ b; omega
   ·exact ha
  ·have loop : ∀ (ys dn : List Int) (c : Acc),rest = dn ++ ys → c.1.length ≤ b → (EC (Za leaf m) now rest ys dn.length c).1.length ≤ b:=by
    intro ys
    induction ys with
    | nil=>intro dn c _ hc; exact hc
    | cons y ys ih =>
     intro dn c e hc
     have hl : rest.length = dn.length + (ys.length + 1):=by rw [e]; simp
     have hel:=List.length_eraseIdx_of_lt (l:=rest) (i:=dn.length) (by omega)
     rw [EC]
     have h1:=EI leaf m (now ++ [y]) (rest.eraseIdx dn.length) c b hc (by rw [List.length_append,List.length_singleton]; omega)
     have:=ih (dn ++ [y]) _ (by rw [e]; simp) h1
     rw [List.length_append,List.length_singleton] at this
     exact this
   exact loop rest [] a rfl ha
def Yq (s : List Ed) (c : List Es) (need : Int) : Acc:=Za (GE s need (Xr s need none c (0,[])).1 (Xr s need none c (0,[])).2) 16 [] (EF 0 s.length) ([],0,0,false)
theorem JL {x : List Ed} {c : List Es} {need : Int} (hsw : Ko x c = some 0) (hg : ∀ z ∈ x,Oa z) (hcv : ∀ z ∈ c,∃ k y,CV x z k y) (hx : x.length ≤ 8) (hc : c.length ≤ 2000) (n0 : 0 ≤ need) (n1 : need ≤ 3600000) :
  Qg x c need = some (if 345686400000 < Om (tt x 0) 0 then ([],0,1) else ((Yq (Lw ltK x) c need).1.map (fun k=>(nth (Lw ltK x) k).Key),(Yq (Lw ltK x) c need).2.1,0)):=by
 have hlen:=AH ltK x
 have hk : ∀ z ∈ c,0 ≤ Ef (Lw ltK x) z.Item ∧ Ef (Lw ltK x) z.Item < ((Lw ltK x).length : Int):=fun z hz=>by
  obtain ⟨k,y,h⟩:=hcv z hz
  refine HB ⟨y,(Vy ltK x y).2 (List.mem_of_getElem? h.get),?_⟩
  have hkey : ∀ {l : List Ed} {key : ByteArray} {k : Nat} {y : Ed},ixN l key = some k → l[k]? = some y → y.Key = key:=by
   intro l
   induction l with
   | nil=>intro key k y h; cases h
   | cons q l ih =>
    intro key k y h h2
    rw [ixN] at h
    split at h
    ·rename_i hq
     obtain rfl:=Option.some.inj h
     simp at h2
     rw [← h2]; exact hq
    ·obtain ⟨k',h3,h4⟩:=Option.map_eq_some_iff.1 h
     subst h4
     exact ih h3 (by simpa using h2)
  exact hkey h.ix h.get
 obtain ⟨e1,e2,e3⟩:=CW (items:=Lw ltK x) (l:=c) (need:=need) (by omega) hc hk
 have hW : Ev need 0 3600000 = true:=by unfold Ev; simp; omega
 have htt:=AC x 0 hg
 have hbl : (Yq (Lw ltK x) c need).1.length ≤ (Lw ltK x).length:=EI _ _ _ _ _ _ (by simp) (by rw [AN]; simp)
 have hbi : InR (Lw ltK x).length (Yq (Lw ltK x) c need).1:=GF _ _ _ _ _ (fun _ h=>by cases h) (GG _) (fun _ h=>by cases h)
 unfold Qg
 rw [hsw,Option.bind_some,if_neg (by simp),if_neg (by simp only [decide_eq_true_eq]; omega)]
 simp only [Lv]
 rw [hW,if_neg (by simp),Ud x 0 hg (by omega) (by omega) (by omega),Option.bind_some,ER _ _ (by omega),Option.bind_some]
 by_cases hE : 345686400000 < Om (tt x 0) 0
 ·rw [if_pos (decide_eq_true hE),if_pos hE]
 ·rw [if_neg (by simpa using hE),if_neg hE]
  unfold Lz
  rw [My (by simp; omega),Option.bind_some,List.nil_append,JK x (by omega),Option.bind_some,e1,Option.bind_some,EG _ _ 0 [] (by simp; omega),List.nil_append]
  have ht:=JJ (within:=(Xr (Lw ltK x) need none c (0,[])).1) (need:=need) (show (Lw ltK x).length ≤ 1000 by omega) e2 16 [] (EF 0 (Lw ltK x).length) ([],0,0,false) (by rw [AN]; omega) (fun _ h=>by cases h) (GG _) (by rw [AN]; simp; omega)
  rw [ht,Option.bind_some]
  show Ip (Lw ltK x) (fun x3=>some (x3,(Yq (Lw ltK x) c need).2.1,0)) (Yq (Lw ltK x) c need).1 0 [] = _
  rw [EH _ _ _ 0 [] hbi (by simp; omega),List.nil_append]
theorem BS {items : List Ed} (hi : items.length ≤ 100) {o : List ByteArray} (j : List Ed → Option ((List Ed) × Int)) (hj : ∀ x,∃ r,j x = some r) : ∀ (ys dn : List ByteArray) (x : List Ed),o = dn ++ ys → x.length + ys.length ≤ 1000 → ∃ r,Ji items o j ys dn.length x = some r
 | [],_,x,_,_=>by obtain ⟨r,h⟩:=hj x; exact ⟨r,by rw [Ji,h]⟩
 | y :: ys,dn,x,e,h=>by
  simp only [List.length_cons] at h
  have hl : o.length = dn.length + (ys.length + 1):=by rw [e]; simp
  rw [Ji]
  by_cases h0 : Ef items y < 0
  ·exact ⟨_,by rw [if_pos (decide_eq_true h0)]⟩
  ·rw [if_neg (by simpa using h0),My (Uh.2 (by omega))]
   by_cases h1 : Gy (cut o 0 (dn.length : Int)) y = true
   ·exact ⟨_,by rw [if_pos h1]⟩
   ·have hix : Ef items y < (items.length : Int):=by
     rw [Zh] at h0 ⊢
     unfold ixI at h0 ⊢
     cases hx : ixN items y with
     | none=>rw [hx] at h0; simp at h0
     | some k=>have:=AD hx; simp only; omega
    rw [if_neg h1,My (Ja.2 (by omega)),My (by unfold Qa; simp; omega)]
    obtain ⟨r,hr⟩:=BS hi (o:=o) j hj ys (dn ++ [y]) (x ++ [nth items (Ef items y)]) (by rw [e]; simp) (by simp; omega)
    rw [List.length_append,List.length_singleton] at hr
    exact ⟨r,hr⟩
theorem HC {items : List Ed} (hi : items.length ≤ 100) (hc : Ik items = some 0) (o : List ByteArray) : ∃ r,Qh items o = some r:=by
 unfold Qh
 rw [hc,Option.bind_some,if_neg (by simp)]
 by_cases h2 : (o.length : Int) = (items.length : Int)
 ·rw [if_neg (by simp [h2]),Lv]
  exact BS hi _ (fun x=>⟨_,rfl⟩) o [] [] rfl (by simp; omega)
 ·exact ⟨_,by rw [if_pos (by simpa using h2)]⟩
end Go.Proofs.YtcgffkkagmkhkaaGreatDoor
namespace Go.Proofs.YtcgffkkagmkhkaaGreatDoor
open Go
theorem Xs {α R : Type} (z : α) (j : List α → Option R) (F : List α → Nat → List α → Option R) (h0 : ∀ i x,F [] i x = j x) (h1 : ∀ y ys i x,F (y :: ys) i x = Chk (inB (i : Int) x.length) (F ys (i + 1) (x.set ((i : Int).toNat) z))) :
  ∀ (ys : List α) (i : Nat) (x : List α),i + ys.length ≤ x.length → ∃ x',F ys i x = j x'
 | [],i,x,_=>⟨x,h0 i x⟩
 | y :: ys,i,x,h=>by
  simp only [List.length_cons] at h
  obtain ⟨x',e⟩:=Xs z j F h0 h1 ys (i + 1) (x.set ((i : Int).toNat) z) (by simp; omega)
  exact ⟨x',by rw [h1,Nt (Ja.2 (by omega)),e]⟩
theorem BT (l : List Ee) : ∃ x',Kp l = some x':=by
 unfold Kp
 rw [Lv]
 exact Xs _ (fun x=>some x) (Hn fun x=>some x) (fun _ _=>rfl) (fun _ _ _ _=>rfl) l 0 l (by omega)
theorem HD (l : List Gj) : ∃ x',Lq l = some x':=by
 unfold Lq
 rw [Lv]
 exact Xs _ (fun x=>some x) (Hp fun x=>some x) (fun _ _=>rfl) (fun _ _ _ _=>rfl) l 0 l (by omega)
theorem HE (l : List Ed) : ∃ x',Lt l = some x':=by
 unfold Lt
 rw [Lv]
 exact Xs _ (fun x=>some x) (Hr fun x=>some x) (fun _ _=>rfl) (fun _ _ _ _=>rfl) l 0 l (by omega)
theorem eqItemS (l : List Ed) : Ni l l = some true:=by
 unfold Ni
 rw [if_neg (by simp),Lv]
 exact eq_l l (Iv l (some true)) (fun _=>rfl) (fun _ _ _=>rfl) l [] rfl
theorem eqCallS (l : List Es) : Nj l l = some true:=by
 unfold Nj
 rw [if_neg (by simp),Lv]
 exact eq_l l (Iw l (some true)) (fun _=>rfl) (fun _ _ _=>rfl) l [] rfl
theorem eqHeldS (l : List Ey) : Nk l l = some true:=by
 unfold Nk
 rw [if_neg (by simp),Lv]
 exact eq_l l (Ix l (some true)) (fun _=>rfl) (fun _ _ _=>rfl) l [] rfl
theorem Zb {L : List Int} (hL : AJ L) {a : Int} (h0 : 0 ≤ a) (h1 : a ≤ 100000000) : Dr a 25 (fun x=>x.length ≤ 5 ∧ (∀ z ∈ x,IW z) ∧ x.Pairwise (fun a b=>a.Key ≠ b.Key)) (Ly L a 4):=by
 unfold Ly
 rw [Nt (by decide +kernel),Re]
 have hc : cut ([Uo,Up,Uq,Ur,Wl] : List ByteArray) 0 4 = [Uo,Up,Uq,Ur]:=rfl
 rw [hc]
 obtain ⟨x,c,e',g7,g8,g9,g10,g11⟩:=Sz hL [Uo,Up,Uq,Ur] 0 [] a h0 (by simp; omega) (by simp) (fun s h=>by simp only [DY,List.mem_cons,List.not_mem_nil,or_false] at *; rcases h with h | h | h | h <;> simp [h]) (by decide +kernel) (fun _ h=>by cases h) List.Pairwise.nil
 exact ⟨x,c,e',g7,by simp at g8; omega,by simp at g9; omega,g10,g11⟩
theorem EJ {items : List Ed} (hi : items.length ≤ 100) (l : List Ey) (hl : l.length ≤ 2000) : ∀ (ys dn : List Ey) (v : Int),l = dn ++ ys → ∃ e,Ic items l (some 0) ys dn.length v = some e ∧ (e = 0 → ∀ p ∈ ys,It p.At = true)
 | [],dn,v,_=>⟨0,rfl,fun _ p hp=>by cases hp⟩
 | y :: ys,dn,v,e=>by
  have hlen : l.length = dn.length + (ys.length + 1):=by rw [e]; simp
  obtain ⟨n,h1,h2⟩:=EJ hi l hl ys (dn ++ [y]) (W ((W ((Ef items y.Item) * 61)) + y.Heat)) (by rw [e]; simp)
  rw [List.length_append,List.length_singleton] at h1
  rw [Ic]
  simp only [Lv]
  by_cases h0 : Ef items y.Item < 0
  ·exact ⟨8,by rw [if_pos (decide_eq_true h0)],fun h=>by cases h⟩
  ·have hix : Ef items y.Item < (items.length : Int):=by
    rw [Zh] at h0 ⊢
    unfold ixI at h0 ⊢
    cases hx : ixN items y.Item with
    | none=>rw [hx] at h0; simp at h0
    | some k=>have:=AD hx; simp only; omega
   rw [if_neg (by simpa using h0),My (Ja.2 (by omega)),h1]
   cases c1 : Ev y.Heat 1 ((nth items (Ef items y.Item)).Heats) with
   | false=>exact ⟨1,by simp,fun h=>by cases h⟩
   | true =>
    cases c2 : It y.At with
    | false=>exact ⟨1,by simp,fun h=>by cases h⟩
    | true =>
     simp only [Bool.not_true,Bool.false_eq_true,if_false]
     by_cases c3 : (W ((W ((Ef items y.Item) * 61)) + y.Heat)) ≤ v
     ·exact ⟨7,by simp [c3],fun h=>by cases h⟩
     ·simp only [c3,decide_false,Bool.false_eq_true,if_false,Bool.false_or]
      have fin : ∀ c : Bool,∃ n',(if c then some 7 else some n) = some n' ∧ (n' = 0 → ∀ p ∈ y :: ys,It p.At = true):=fun c=>by
       cases c with
       | true=>exact ⟨7,by simp,fun h=>by cases h⟩
       | false =>
        refine ⟨n,by simp,fun h p hp=>?_⟩
        rcases List.mem_cons.1 hp with rfl | hp
        ·exact c2
        ·exact h2 h p hp
      by_cases c4 : 0 < (dn.length : Int)
      ·rw [if_pos (decide_eq_true c4),My (Ja.2 (by rw [Oq (by omega) (by omega)]; omega))]
       exact fin _
      ·rw [if_neg (by simpa using c4)]
       exact fin _
theorem JM {x : List Ed} (hci : Ik x = some 0) (hg : ∀ z ∈ x,Oa z) (hx : x.length ≤ 100) {h : List Ey} (hAt : ∀ p ∈ h,AU p.At) : ∃ r,Qy x 0 h = some r:=by
 unfold Qy Pe Pd
 rw [hci,Option.bind_some,if_neg (by simp)]
 by_cases hl : 100 < (h.length : Int)
 ·rw [if_pos (decide_eq_true hl)]
  exact ⟨_,rfl⟩
 ·rw [if_neg (by simpa using hl),Lv]
  obtain ⟨e,e1,e2⟩:=EJ hx h (by omega) h [] (-1) rfl
  rw [show ([] : List Ey).length = 0 from rfl] at e1
  rw [e1,Option.bind_some]
  by_cases h0 : e = 0
  ·subst h0
   obtain ⟨z,z1,_,_,_,_,z6⟩:=IY x hg hx 0 (by omega) (by omega) h (fun p hp=>by
    have h3:=e2 rfl p hp
    have h4:=hAt p hp
    unfold It at h3
    simp only [Bool.and_eq_true,decide_eq_true_eq] at h3
    unfold AU at h4
    omega)
   have hm : It 0 = true:=by decide
   rw [if_neg (by simp),hm,if_neg (by simp),z1,Option.bind_some,ER z 0 z6,Option.bind_some]
   split
   ·exact ⟨_,rfl⟩
   ·exact ⟨_,rfl⟩
  ·exact ⟨([],e),by rw [if_pos (by simp [h0])]; rfl⟩
theorem plain_SessionsStay (l : List Int) (hl : l.length ≤ 9223372036854775807) : Mh l = some true:=by
 have hL : AJ l:=by unfold AJ; omega
 obtain ⟨x,a1,e1,p1,q1,hx5,hit,hd⟩:=Zb hL (a:=0) (by omega) (by omega)
 have hg : ∀ z ∈ x,Oa z:=fun z hz=>(hit z hz).1
 obtain ⟨c,a2,e2,p2,q2,hc15,hcw,hcp,hcn⟩:=JA hL (a:=a1) (by omega) (by omega) x hx5 (fun y hy=>by have:=hg y hy; unfold Oa at this; omega) hd
 obtain ⟨hh,a3,e3,hAt⟩:=IX hL (a:=a2) (by omega) (by omega) x hx5
 have hci : Ik x = some 0:=by
  unfold Ik
  rw [if_neg (by simp; omega),Lv]
  exact BR x 0 [] (fun z hz=>⟨hit z hz,rfl⟩) hd
 have hcv : ∀ z ∈ c,∃ k y,CV x z k y:=fun z hz=>by
  obtain ⟨_,y,hy,h1,h2,h3⟩:=hcw z hz
  obtain ⟨k,g1,g2⟩:=JB hy hd
  exact ⟨k,y,by rw [h1]; exact g1,g2,h2,h3⟩
 have hadj:=cadj_of hcp
 have hsw:=pass x hci (by omega) c (by omega) (fun z hz=>JC (hcw z hz).1) hcv hadj
 have hb:=JE x 0 hg hx5 (by omega) (by omega)
 have hlen:=AC x 0 hg
 have hT : (tt x 0).length ≤ 10000:=by omega
 have hcalls : ∀ w,Mk (Jq (tt x 0)) c w = some (We (tt x 0) c w):=fun w=>IQ x hg hd c (by omega) hcv hadj 0 w (hcn w)
 have hR : Qf x c 0 = some (EU (tt x 0) c (nb (c.map (·.Who))),0):=by
  unfold Qf
  rw [hsw,hb]
  simp only [Option.bind_some,decide_true,Bool.not_true,Bool.false_eq_true,if_false]
  rw [IS _ c (by omega) hT hcalls]
  rfl
 have hTm : Mb x 0 = some (tt x 0,0):=by
  unfold Mb
  rw [hci]
  simp only [Option.bind_some,decide_true,Bool.not_true,Bool.false_eq_true,if_false]
  rw [hb]
  rfl
 have hO:=JL (need:=100) hsw hg hcv (by omega) (by omega) (by omega) (by omega)
 generalize (if 345686400000 < Om (tt x 0) 0 then (([],0,1) : (List ByteArray) × Int × Int) else ((Yq (Lw ltK x) c 100).1.map (fun k=>(nth (Lw ltK x) k).Key),(Yq (Lw ltK x) c 100).2.1,0)) = O at hO
 obtain ⟨M,hM⟩:=HC (items:=x) (by omega) hci O.1
 obtain ⟨V,hV⟩:=JM hci hg (by omega) hAt
 obtain ⟨s1,t1⟩:=BT (tt x 0)
 obtain ⟨s2,t2⟩:=HD (EU (tt x 0) c (nb (c.map (·.Who))))
 obtain ⟨s3,t3⟩:=HE M.1
 obtain ⟨s4,t4⟩:=BT V.1
 unfold Mh
 rw [e1]; simp only [Option.bind_some]
 rw [e2]; simp only [Option.bind_some]
 rw [e3]; simp only [Option.bind_some]
 rw [hTm]; simp only [Option.bind_some]
 rw [t1]; simp only [Option.bind_some]
 rw [hR]; simp only [Option.bind_some]
 rw [t2]; simp only [Option.bind_some]
 rw [hO]; simp only [Option.bind_some]
 rw [hM]; simp only [Option.bind_some]
 rw [t3]; simp only [Option.bind_some]
 rw [hV]; simp only [Option.bind_some]
 rw [t4]; simp only [Option.bind_some]
 rw [eqItemS]; simp only [Option.bind_some,Lv,if_true]
 rw [eqCallS]; simp only [Option.bind_some,Bool.and_self,if_true]
 rw [eqHeldS]; simp only [Option.bind_some,Bool.and_self,if_true,IV]
end Go.Proofs.YtcgffkkagmkhkaaGreatDoor
