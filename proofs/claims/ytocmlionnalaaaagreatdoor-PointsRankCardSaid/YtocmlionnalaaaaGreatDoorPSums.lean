/- Names,each once,in order; the program's sums,sorted. Conditions: at most twelve names. -/
import Derived.Test.YtocmlionnalaaaaGreatDoorPPtsC
namespace Go.Proofs.YtocmlionnalaaaaGreatDoor
open Go
theorem CF {α : Type} [Inhabited α] {l : List α} {e : Int} (h : inB e l.length = true) : nth l e ∈ l:=List.mem_of_getElem? (Cn h).1
section
variable {L : List Int} (hL : Uj L)
include hL
structure SR (l : List An) : Prop where
 len : l.length ≤ 15
 size : ∀ x ∈ l,x.Race.size ≤ 1000 ∧ x.Who.size ≤ 1000
 who : l.length ≤ 12 ∨ ∀ x ∈ l,x.Who ∈ k_A :: Qr
 club : ∀ x ∈ l,x.Club ∈ k_A :: Rs
omit hL in
theorem CY : ∀ i : Fin 12,(Utf8.encode (IntKind.wrap .i32 (W (97 + (i.val : Int))))).size ≤ 1000:=by decide +kernel
omit hL in
theorem Nw {s : ByteArray} (h : s ∈ Um ∨ s ∈ Qr ∨ s = Co ∨ s = k_A) : s.size ≤ 1000:=by
 have g : ∀ s ∈ Um ++ Qr ++ [Co,k_A],s.size ≤ 1000:=by decide +kernel
 refine g s ?_
 simp only [List.mem_append,List.mem_cons,List.not_mem_nil,or_false]
 rcases h with h | h | h | h
 ·exact .inl (.inl h)
 ·exact .inl (.inr h)
 ·exact .inr (.inl h)
 ·exact .inr (.inr h)
theorem ER (r3 : Int × Int) (hr : r3.1 ≤ 12) (j : List An → Int → Option (List An × Int)) : ∀ (d m : Nat) (x : List An) (a i : Int),r3.1 ≤ i + d → d < m → 0 ≤ i → i = x.length → x.length ≤ 12 → 0 ≤ a → a + d ≤ 100000 → SR x →
  ∃ z b,Hu r3 L j m x a i = j z b ∧ a ≤ b ∧ b ≤ a + d ∧ SR z
 | d,0,x,a,i,_,h,_,_,_,_,_,_=>by omega
 | d,m + 1,x,a,i,h1,h2,h3,h4,h5,h6,h7,h8=>by
  rw [Hu]
  by_cases hi : i < r3.1
  ·rw [if_pos (decide_eq_true hi)]
   obtain ⟨c,b,e,g1,g2,g3⟩:=Rp hL (a:=a) h6 (by omega) [Ie,Of] (by simp) (by simp)
   rw [e]; simp only [Option.bind_some]
   rw [Hl (by unfold Pj; simp; omega),Jw (n:=i + 1) (by omega) (by omega)]
   have hsz:=CY ⟨x.length,by omega⟩
   simp only at hsz
   rw [← h4] at hsz
   obtain ⟨z,b',e',g4,g5,g6⟩:=ER r3 hr j (d - 1) m (x ++ [An.mk Jg (Utf8.encode (IntKind.wrap .i32 (W (97 + i)))) c 1 false]) b (i + 1) (by omega) (by omega) (by omega) (by simp; omega) (by simp; omega) (by omega) (by omega)
    ⟨by simp; omega,fun y hy=>by
     rcases List.mem_append.1 hy with hy | hy
     ·exact h8.size y hy
     ·obtain rfl:=List.mem_singleton.1 hy
      exact ⟨Nw (.inl (by simp [Um])),hsz⟩,.inl (by simp; omega),fun y hy=>by
     rcases List.mem_append.1 hy with hy | hy
     ·exact h8.club y hy
     ·obtain rfl:=List.mem_singleton.1 hy
      simp only [List.mem_cons,List.not_mem_nil,or_false] at g3
      rcases g3 with rfl | rfl <;> simp [Rs]⟩
   exact ⟨z,b',e',by omega,by omega,g6⟩
  ·rw [if_neg (by simpa using hi)]
   exact ⟨x,a,rfl,by omega,by omega,h8⟩
omit hL in
theorem SR.set {l : List An} (h : SR l) {i : Int} (h0 : 0 ≤ i) (hi : i < l.length) (y : An) (h1 : y.Race.size ≤ 1000 ∧ y.Who.size ≤ 1000) (h2 : y.Who = (nth l i).Who ∨ y.Who ∈ k_A :: Qr) (h3 : y.Club ∈ k_A :: Rs) : SR (l.set i.toNat y):=by
 have hn : nth l i ∈ l:=CF (Ge.2 ⟨h0,hi⟩)
 refine ⟨by rw [List.length_set]; exact h.len,fun x hx=>?_,?_,fun x hx=>?_⟩
 ·rcases List.mem_or_eq_of_mem_set hx with hx | rfl
  ·exact h.size x hx
  ·exact h1
 ·rw [List.length_set]
  rcases h.who with hw | hw
  ·exact .inl hw
  ·right; intro x hx
   rcases List.mem_or_eq_of_mem_set hx with hx | rfl
   ·exact hw x hx
   ·rcases h2 with h2 | h2
    ·rw [h2]; exact hw _ hn
    ·exact h2
 ·rcases List.mem_or_eq_of_mem_set hx with hx | rfl
  ·exact h.club x hx
  ·exact h3
theorem Ze {a : Int} (h0 : 0 ≤ a) (h1 : a ≤ 10000) : Dr a 80 SR (Nl L a):=by
 unfold Nl
 obtain ⟨l,b,e,g1,g2,Gs,g3,g4⟩:=CX hL (a:=a) h0 (by omega)
 rw [e]; simp only [Option.bind_some]
 have hl : SR l:=by
  rw [g3]
  refine ⟨g4.len,fun x hx=>?_,.inr fun x hx=>?_,fun x hx=>?_⟩
  ·obtain ⟨r1,r2,_⟩:=g4.row x hx
   exact ⟨Nw (.inl r1),Nw (.inr (.inl r2))⟩
  ·exact List.mem_cons_of_mem _ (g4.row x hx).2.1
  ·exact List.mem_cons_of_mem _ (g4.row x hx).2.2.1
 obtain ⟨f,b1,e1,g5,g6,_⟩:=Uk hL (a:=b) (by omega) (by omega) 20 (by omega)
 rw [e1]; simp only [Option.bind_some]
 have fin : ∀ (F : Int → List An → Option (List An × Int)),(∀ c x,a ≤ c → c ≤ a + 70 → SR x → Dr a 80 SR (F c x)) → Dr a 80 SR (Ex F (fun j1=>if f = true then Option.bind (Jy L b1 9 12) (fun r3=>Ex (fun (x3 : List An) (x4 : Int)=>j1 x4 x3) (fun j2=>Hu r3 L j2 ((r3.1 - 0).toNat + 2) ([] : List An) r3.2 0)) else j1 b1 l)):=by
  intro F hF
  rw [Ia]
  cases f with
  | false=>rw [if_neg (by simp)]; exact hF b1 l (by omega) (by omega) hl
  | true =>
   rw [if_pos rfl]
   obtain ⟨n,b2,e2,g7,g8,g9,g10⟩:=Zz hL (a:=b1) (by omega) (by omega) 9 12 (by omega) (by omega) (by omega)
   rw [e2]; simp only [Option.bind_some,Ia]
   obtain ⟨z,b3,e3,g11,g12,g13⟩:=ER hL (n,b2) (by simp only; omega) (fun (x3 : List An) (x4 : Int)=>F x4 x3) n.toNat ((n - 0).toNat + 2) [] b2 0 (by simp only; omega) (by omega) (by omega) rfl (by simp) (by omega) (by omega) ⟨by simp,(fun _ h=>by cases h),.inl (by simp),(fun _ h=>by cases h)⟩
   rw [e3]
   exact hF b3 z (by omega) (by omega) g13
 refine fin _ fun c x hc1 hc2 hx=>?_
 simp only [Ia]
 have hxl:=hx.len
 by_cases hp : 0 < (x.length : Int)
 ·rw [if_pos (decide_eq_true hp)]
  obtain ⟨f2,b2,e2,g7,g8,_⟩:=Uk hL (a:=c) (by omega) (by omega) 12 (by omega)
  rw [e2]; simp only [Option.bind_some]
  cases f2 with
  | false=>rw [if_neg (by simp)]; exact ⟨x,b2,rfl,by omega,by omega,hx⟩
  | true =>
   rw [if_pos rfl]
   obtain ⟨i,b3,e3,g9,g10,g11,g12⟩:=CA hL (a:=b2) (by omega) (by omega) (x.length : Int) (by omega)
   rw [e3]; simp only [Option.bind_some]
   have hi : i < x.length:=by omega
   rw [Hl (Ge.2 ⟨g11,hi⟩)]
   have hn : nth x i ∈ x:=CF (Ge.2 ⟨g11,hi⟩)
   have hns:=hx.size _ hn
   have hnc:=hx.club _ hn
   obtain ⟨k,b4,e4,g13,g14,_⟩:=CA hL (a:=b3) (by omega) (by omega) 4 (by omega)
   rw [e4]; simp only [Option.bind_some]
   split
   ·obtain ⟨s,b5,e5,g15,g16,g17⟩:=Rp hL (a:=b4) (by omega) (by omega) [(nth x i).Race,Co,Jg] (by simp) (by simp)
    rw [e5]; simp only [Option.bind_some]
    obtain ⟨w,b6,e6,g18,g19,g20⟩:=Rp hL (a:=b5) (by omega) (by omega) [(nth x i).Who,k_A,Kh] (by simp) (by simp)
    rw [e6]; simp only [Option.bind_some]
    simp only [List.mem_cons,List.not_mem_nil,or_false] at g17 g20
    have hss : s.size ≤ 1000:=by
     rcases g17 with rfl | rfl | rfl
     ·exact hns.1
     ·exact Nw (.inr (.inr (.inl rfl)))
     ·exact Nw (.inl (by simp [Um]))
    have hws : w.size ≤ 1000 ∧ (w = (nth x i).Who ∨ w ∈ k_A :: Qr):=by
     rcases g20 with rfl | rfl | rfl
     ·exact ⟨hns.2,.inl rfl⟩
     ·exact ⟨Nw (.inr (.inr (.inr rfl))),.inr (by simp)⟩
     ·exact ⟨Nw (.inr (.inl (by simp [Qr]))),.inr (by simp [Qr])⟩
    refine ⟨_,b6,rfl,by omega,by omega,?_⟩
    have s1:=hx.set g11 hi (An.mk s (nth x i).Who (nth x i).Club (nth x i).Rank (nth x i).Relay) ⟨hss,hns.2⟩ (.inl rfl) hnc
    refine s1.set g11 (by rw [List.length_set]; exact hi) _ ⟨hss,hws.1⟩ ?_ hnc
    rw [nth_set g11 hi g11,if_pos rfl]; exact hws.2
   ·split
    ·obtain ⟨s,b5,e5,g15,g16,g17⟩:=Rp hL (a:=b4) (by omega) (by omega) [Ie,k_A] (by simp) (by simp)
     rw [e5]; simp only [Option.bind_some]
     refine ⟨_,b5,rfl,by omega,by omega,hx.set g11 hi _ hns (.inl rfl) ?_⟩
     simp only [List.mem_cons,List.not_mem_nil,or_false] at g17
     rcases g17 with rfl | rfl <;> simp [Rs]
    ·split
     ·obtain ⟨s,b5,e5,g15,g16,_⟩:=AY hL (a:=b4) (by omega) (by omega) 0 5 (by omega) (by omega) (by omega)
      rw [e5]; simp only [Option.bind_some]
      exact ⟨_,b5,rfl,by omega,by omega,hx.set g11 hi _ hns (.inl rfl) hnc⟩
     ·exact ⟨_,b4,rfl,by omega,by omega,hx.set g11 hi _ hns (.inl rfl) hnc⟩
 ·rw [if_neg (by simpa using hp),if_neg (by simp)]
  exact ⟨x,c,rfl,by omega,by omega,hx⟩
end
end Go.Proofs.YtocmlionnalaaaaGreatDoor
namespace Go.Proofs.YtocmlionnalaaaaGreatDoor
open Go

theorem Zf {l : List UInt8} {c : UInt8} : decide (Lib.indexByte l c < 0) = !l.contains c:=by
 have key : ∀ l : List UInt8,(Lib.indexByte l c = -1 ∧ l.contains c = false) ∨ (0 ≤ Lib.indexByte l c ∧ l.contains c = true):=by
  intro l
  induction l with
  | nil=>exact .inl ⟨rfl,rfl⟩
  | cons b l ih =>
   by_cases hb : b = c
   ·subst hb; exact .inr (by simp [Lib.indexByte])
   ·have hb' : (b == c) = false:=by simpa using hb
    have hc : (c == b) = false:=by simpa using fun h=>hb h.symm
    rcases ih with ⟨h1,h2⟩ | ⟨h1,h2⟩
    ·refine .inl ⟨by simp [Lib.indexByte,hb',h1],?_⟩
     rw [List.contains_cons,hc,h2]; rfl
    ·have h3 : ¬ Lib.indexByte l c = -1:=by omega
     refine .inr ⟨by simp [Lib.indexByte,hb',h3]; omega,?_⟩
     rw [List.contains_cons,hc,h2]; rfl
 rcases key l with ⟨h1,h2⟩ | ⟨h1,h2⟩
 ·rw [h1,h2]; rfl
 ·rw [h2]; simp; omega
theorem CZ (u : UInt8) : ((u.toNat : Int)).toNat.toUInt8 = u:=by simp
theorem Qs (s : ByteArray) : s.size = s.data.toList.length:=by rw [ByteArray.size,Array.length_toList]
theorem Yi {s : ByteArray} {j : Nat} {u : UInt8} (h : s.data.toList[j]? = some u) : Px s (j : Int) = (u.toNat : Int):=by
 unfold Px
 rw [Int.toNat_natCast]
 simp [List.getD,h]
theorem DA (s some_ : ByteArray) : ∀ (k : Nat) (m : Nat),k + m = s.size + 1 → s.size ≤ 4611686018427387904 →
  Hw s some_ (some true) (m + 1) (k : Int) = some ((s.data.toList.drop k).all fun b=>some_.data.toList.contains b):=by
 intro k m
 induction m generalizing k with
 | zero =>
  intro h hs
  have h1 : ¬ (k : Int) < (s.size : Int):=by omega
  rw [Hw]
  rw [if_neg (by simpa using h1),List.drop_of_length_le (by rw [← Qs]; omega)]
  rfl
 | succ m ih =>
  intro h hs
  rw [Hw]
  by_cases h1 : (k : Int) < (s.size : Int)
  ·have hk : k < s.data.toList.length:=by rw [← Qs]; omega
   have hget : s.data.toList[k]? = some s.data.toList[k]:=List.getElem?_eq_getElem hk
   rw [if_pos (decide_eq_true h1),Hl (Ge.2 ⟨by omega,h1⟩),List.drop_eq_getElem_cons hk,List.all_cons]
   have hb : decide (Ml some_ (Px s (k : Int)) < 0) = !some_.data.toList.contains s.data.toList[k]:=by
    unfold Ml
    rw [Yi hget,CZ,Zf]
   rw [hb]
   cases hc : some_.data.toList.contains s.data.toList[k] with
   | false=>simp
   | true =>
    simp only [Bool.not_true,Bool.false_eq_true,if_false,Bool.true_and]
    have hw : W ((k : Int) + 1) = ((k + 1 : Nat) : Int):=by rw [Jw (by omega) (by omega)]; omega
    rw [hw]
    exact ih (k + 1) (by omega) hs
  ·rw [if_neg (by simpa using h1),List.drop_of_length_le (by rw [← Qs]; omega)]
   rfl
theorem CG (s some_ : ByteArray) (hs : s.size ≤ 4611686018427387904) : Md s some_ = some (s.data.toList.all fun b=>some_.data.toList.contains b):=by
 unfold Md
 rw [Ia]
 have h:=DA s some_ 0 (s.size + 1) (by omega) hs
 have e : ((s.size : Int) - 0).toNat + 2 = s.size + 1 + 1:=by omega
 rw [e]
 exact h
theorem Oy {p : UInt8 → Bool} : ∀ {l : List UInt8},l.dropWhile p = [] ↔ l.all p = true
 | []=>by simp
 | a :: l=>by
  rw [List.dropWhile_cons,List.all_cons]
  cases h : p a with
  | true=>simpa [h] using Oy (p:=p) (l:=l)
  | false=>simp
theorem ES {l cs : List UInt8} : Lib.trimS l cs = [] ↔ l.all (fun b=>cs.contains b) = true:=by
 unfold Lib.trimS Lib.trimLeftS Lib.trimRightS
 rw [Oy,List.all_reverse]
 constructor
 ·intro h
  have h2 : l.reverse.dropWhile (fun x=>cs.contains x) = []:=by
   cases hd : l.reverse.dropWhile (fun x=>cs.contains x) with
   | nil=>rfl
   | cons a r =>
    have h3:=List.head_dropWhile_not (fun x=>cs.contains x) (l:=l.reverse) (by rw [hd]; simp)
    rw [hd] at h
    simp only [hd,List.head_cons] at h3
    rw [List.all_cons,h3] at h
    cases h
  rw [Oy,List.all_reverse] at h2
  exact h2
 ·intro h
  have h2 : l.reverse.dropWhile (fun x=>cs.contains x) = []:=by rw [Oy,List.all_reverse]; exact h
  rw [h2]; rfl
end Go.Proofs.YtocmlionnalaaaaGreatDoor
namespace Go.Proofs.YtocmlionnalaaaaGreatDoor
open Go

theorem DB (u : UInt8) : Hb.data.toList.contains u = (decide (97 ≤ (u.toNat : Int)) && decide ((u.toNat : Int) ≤ 122)):=by
 have key : ∀ n : Fin 256,Hb.data.toList.contains (UInt8.ofNat n.val) = (decide (97 ≤ (((UInt8.ofNat n.val).toNat : Nat) : Int)) && decide ((((UInt8.ofNat n.val).toNat : Nat) : Int) ≤ 122)):=by decide +kernel
 have h:=key ⟨u.toNat,u.toNat_lt⟩
 simpa using h
theorem DC : (Ek.data.toList.all fun b=>decide (b.toNat < 128)) = true:=by decide +kernel
theorem DD (l : List UInt8) : ((⟨l.toArray⟩ : ByteArray) = Co) ↔ l = []:=by
 constructor
 ·intro h
  have h2:=congrArg (fun b : ByteArray=>b.data.toList) h
  simpa [Co] using h2
 ·rintro rfl; rfl
theorem Xd (s : ByteArray) : ∃ b,Kv s = some b ∧ Kx s = some b:=by
 by_cases hs : 1 ≤ s.size ∧ s.size ≤ 40
 ·obtain ⟨h1,h2⟩:=hs
  have hsz:=Qs s
  obtain ⟨u,r,hl⟩ : ∃ u r,s.data.toList = u :: r:=by
   cases h : s.data.toList with
   | nil=>rw [h] at hsz; exact absurd hsz (by show ¬ s.size = 0; omega)
   | cons u r=>exact ⟨u,r,rfl⟩
  have hin : Ev (s.size : Int) 1 40 = true:=by unfold Ev; simp; omega
  have hwin : (decide (1 ≤ (s.size : Int)) && decide ((s.size : Int) ≤ 40)) = true:=by simp; omega
  have hb0 : inB 0 s.size = true:=Ge.2 ⟨by omega,by omega⟩
  have hc0 : Rz 0 1 s.size = true:=Oa.2 ⟨by omega,by omega,by omega⟩
  have hu : Px s 0 = (u.toNat : Int):=Yi (j:=0) (by rw [hl]; rfl)
  have hcut : (Zi s 0 1).data.toList = [u]:=by
   unfold Zi
   simp [hl]
  have hcsz : (Zi s 0 1).size ≤ 4611686018427387904:=by rw [Qs,hcut]; simp
  have hall:=CG s Ek (by omega)
  have hone:=CG (Zi s 0 1) Hb hcsz
  rw [hcut] at hone
  simp only [List.all_cons,List.all_nil,Bool.and_true,DB] at hone
  have htrim : Oh s Ek = some ⟨(Lib.trimS s.data.toList Ek.data.toList).toArray⟩:=by
   unfold Oh
   rw [Hl (by simp; omega),Hl (by decide +kernel),Hl DC]
  have htr : decide ((⟨(Lib.trimS s.data.toList Ek.data.toList).toArray⟩ : ByteArray) = Co) = s.data.toList.all fun b=>Ek.data.toList.contains b:=by
   rw [Bool.eq_iff_iff,decide_eq_true_eq,DD,ES]
  refine ⟨(decide (97 ≤ (u.toNat : Int)) && decide ((u.toNat : Int) ≤ 122)) && s.data.toList.all fun b=>Ek.data.toList.contains b,?_,?_⟩
  ·unfold Kv
   simp only [Ia,hwin,if_true,Bool.true_and,Hl hb0,hu]
   by_cases g1 : 97 ≤ (u.toNat : Int)
   ·simp only [g1,decide_true,if_true,Bool.true_and]
    by_cases g2 : (u.toNat : Int) ≤ 122
    ·simp only [g2,decide_true,if_true,Bool.true_and,htrim,Option.bind_some,htr]
    ·simp only [g2,decide_false,Bool.false_eq_true,if_false,Bool.false_and]
   ·simp only [g1,decide_false,Bool.false_eq_true,if_false,Bool.false_and]
  ·unfold Kx
   simp only [Ia,hin,if_true,Bool.true_and,Hl hc0,hone,Option.bind_some]
   cases hz : (decide (97 ≤ (u.toNat : Int)) && decide ((u.toNat : Int) ≤ 122)) with
   | true=>simp only [if_true,hall,Option.bind_some,Bool.true_and]
   | false=>simp only [Bool.false_eq_true,if_false,Bool.false_and]
 ·refine ⟨false,?_,?_⟩
  ·have hwin : (decide (1 ≤ (s.size : Int)) && decide ((s.size : Int) ≤ 40)) = false:=by simp; omega
   unfold Kv
   simp only [Ia,hwin,Bool.false_eq_true,if_false,Bool.false_and]
  ·have hin : Ev (s.size : Int) 1 40 = false:=by unfold Ev; simp; omega
   unfold Kx
   simp only [Ia,hin,Bool.false_eq_true,if_false,Bool.false_and]
end Go.Proofs.YtocmlionnalaaaaGreatDoor
namespace Go.Proofs.YtocmlionnalaaaaGreatDoor
open Go
theorem AB {x y : An} (hx : RR x) (hy : RR y) : decide (Jr x y < 0) = Om x y:=by
 have hc : Ef x.Race y.Race = cB x.Race y.Race:=rfl
 have hw : Ef x.Who y.Who = cB x.Who y.Who:=rfl
 have hor : ∀ a b c : Int,My [a,b,c] = if a ≠ 0 then a else if b ≠ 0 then b else c:=fun a b c=>by
  unfold My
  simp only [Ia]
  rw [Ii,Ii,Ii,Ii]
  by_cases h1 : a = 0
  ·by_cases h2 : b = 0
   ·by_cases h3 : c = 0
    ·simp [h1,h2,h3]
    ·simp [h1,h2,h3]
   ·simp [h1,h2]
  ·simp [h1]
 have k1:=Zd hx
 have k2:=Zd hy
 have hk : Ho x.Rank y.Rank = kR x - kR y:=by
  unfold Ho
  simp only [Ia]
  have e : kR x - kR y = W (kR x - kR y):=(Jw (by omega) (by omega)).symm
  rw [e]
  unfold kR
  by_cases a : x.Rank = 0
  ·by_cases b : y.Rank = 0
   ·simp [a,b]
   ·simp [a,b]
  ·by_cases b : y.Rank = 0
   ·simp [a,b]
   ·simp [a,b]
 unfold Jr Om
 rw [hc,hw,hk,hor,decide_eq_decide]
 by_cases e : x.Race = y.Race
 ·rw [e,Pn]
  by_cases k : kR x = kR y
  ·simp [k]
  ·simp only [ne_eq,not_true_eq_false,if_false]
   rw [if_pos (by omega)]
   simp [k]; omega
 ·have : cB x.Race y.Race ≠ 0:=fun h=>e (Ul h)
  rw [if_pos this]; simp [e]
theorem ge_lex {x y : An} (hx : RR x) (hy : RR y) : decide (0 ≤ Jr x y) = !Om x y ∧ decide (0 ≤ Dx x y) = !Om x y:=by
 rw [← AB hx hy]
 refine ⟨?_,?_⟩
 ·rw [← decide_not,decide_eq_decide]; omega
 ·rw [AB hx hy,← Yg hx hy,← decide_not,decide_eq_decide]; omega
theorem CH (l : List An) (hl : l.length ≤ 1000) : ∀ (ys dn : List An),l = dn ++ ys → (∀ x ∈ dn,RR x) → dn.Pairwise (fun x y=>Om x y = true) →
  (∃ e,e ≠ 0 ∧ ∀ j,Dh l j ys dn.length = some e ∧ Db l j ys dn.length = some e) ∨
  (l.Pairwise (fun x y=>Om x y = true) ∧ (∀ x ∈ l,RR x) ∧ ∀ j,Dh l j ys dn.length = j ∧ Db l j ys dn.length = j)
 | [],dn,h,h1,h2=>by
  rw [List.append_nil] at h; subst h
  exact .inr ⟨h2,h1,fun j=>⟨rfl,rfl⟩⟩
 | y :: ys,dn,h,h1,h2=>by
  obtain ⟨b1,p1,q1⟩:=Xd y.Race
  obtain ⟨b2,p2,q2⟩:=Xd y.Who
  obtain ⟨b3,p3,q3⟩:=Xd y.Club
  have five : ∀ j,b1 = false ∨ b2 = false ∨ (y.Club ≠ Co ∧ b3 = false) → Dh l j (y :: ys) dn.length = some 5 ∧ Db l j (y :: ys) dn.length = some 5:=by
   intro j hb
   rw [Dh,Db,p1,q1,p2,q2,p3,q3]
   simp only [Option.bind_some,Ia]
   rcases hb with rfl | rfl | ⟨hc,rfl⟩
   ·simp
   ·cases b1 <;> simp
   ·cases b1 <;> cases b2 <;> simp [hc]
  by_cases g1 : b1 = false
  ·exact .inl ⟨5,by decide,fun j=>five j (.inl g1)⟩
  by_cases g2 : b2 = false
  ·exact .inl ⟨5,by decide,fun j=>five j (.inr (.inl g2))⟩
  by_cases g3 : y.Club ≠ Co ∧ b3 = false
  ·exact .inl ⟨5,by decide,fun j=>five j (.inr (.inr g3))⟩
  have e1 : b1 = true:=by simpa using g1
  have e2 : b2 = true:=by simpa using g2
  have step : ∀ j,Dh l j (y :: ys) dn.length = (if !(Fd y.Rank 0 300) then some 1 else if decide (0 < (dn.length : Int)) then Chk (inB (W ((dn.length : Int) - 1)) l.length) (if decide (0 ≤ (Jr (nth l (W ((dn.length : Int) - 1))) y)) then some 7 else Dh l j ys (dn.length + 1)) else Dh l j ys (dn.length + 1)) ∧
    Db l j (y :: ys) dn.length = (if !(Fd y.Rank 0 300) then some 1 else if decide (0 < (dn.length : Int)) then Chk (inB (W ((dn.length : Int) - 1)) l.length) (if decide (0 ≤ (Dx (nth l (W ((dn.length : Int) - 1))) y)) then some 7 else Db l j ys (dn.length + 1)) else Db l j ys (dn.length + 1)):=by
   intro j
   have hw : Ev = Fd:=rfl
   rw [Dh,Db,p1,q1,p2,q2,p3,q3,hw,e1,e2]
   simp only [Option.bind_some,Ia]
   by_cases hc : y.Club = Co
   ·simp [hc]
   ·have : b3 = true:=by
     cases b3 with
     | true=>rfl
     | false=>exact (g3 ⟨hc,rfl⟩).elim
    simp [hc,this]
  by_cases hr : Fd y.Rank 0 300 = true
  ·have hry : RR y:=by
    unfold Fd at hr
    simp only [Bool.and_eq_true,decide_eq_true_eq] at hr
    exact hr
   have next : dn.Pairwise (fun x y=>Om x y = true) → (∀ x ∈ dn,Om x y = true) → ∀ (_ : ∀ j,Dh l j (y :: ys) dn.length = Dh l j ys (dn.length + 1) ∧ Db l j (y :: ys) dn.length = Db l j ys (dn.length + 1)),
     (∃ e,e ≠ 0 ∧ ∀ j,Dh l j (y :: ys) dn.length = some e ∧ Db l j (y :: ys) dn.length = some e) ∨
     (l.Pairwise (fun x y=>Om x y = true) ∧ (∀ x ∈ l,RR x) ∧ ∀ j,Dh l j (y :: ys) dn.length = j ∧ Db l j (y :: ys) dn.length = j):=by
    intro k1 k2 k3
    have ih:=CH l hl ys (dn ++ [y]) (by rw [h]; simp) (fun x hx=>by
     rcases List.mem_append.1 hx with hx | hx
     ·exact h1 x hx
     ·obtain rfl:=List.mem_singleton.1 hx; exact hry) (by
     rw [List.pairwise_append]
     exact ⟨k1,by simp,fun x hx z hz=>by obtain rfl:=List.mem_singleton.1 hz; exact k2 x hx⟩)
    rw [List.length_append,List.length_singleton] at ih
    simp only [fun j=>(k3 j).1,fun j=>(k3 j).2]
    exact ih
   rcases List.eq_nil_or_concat dn with rfl | ⟨d,x,rfl⟩
   ·refine next h2 (fun x hx=>by cases hx) (fun j=>?_)
    have s:=step j
    rw [hr] at s
    simpa using s
   ·simp only [List.concat_eq_append] at *
    have hlen : ((d ++ [x]).length : Int) = (d.length : Int) + 1:=by simp
    have hdl : d.length ≤ 1000:=by rw [h] at hl; simp at hl; omega
    have hw : W (((d ++ [x]).length : Int) - 1) = (d.length : Int):=by
     rw [hlen,show (d.length : Int) + 1 - 1 = (d.length : Int) by omega,Jw (by omega) (by omega)]
    have hn : nth l (d.length : Int) = x:=by unfold nth; rw [h]; simp
    have hin : inB (d.length : Int) l.length = true:=by rw [Ge,h]; simp; omega
    have hpos : decide (0 < ((d ++ [x]).length : Int)) = true:=by rw [hlen]; simp
    have hrx : RR x:=h1 x (by simp)
    obtain ⟨c1,c2⟩:=ge_lex hrx hry
    rw [hw,hn,hpos,hr,c1,c2] at step
    simp only [Bool.not_true,Bool.false_eq_true,if_false,if_true,Hl hin] at step
    cases hlx : Om x y with
    | false =>
     rw [hlx] at step
     exact .inl ⟨7,by decide,fun j=>by simpa using step j⟩
    | true =>
     rw [hlx] at step
     refine next h2 (fun z hz=>?_) (fun j=>by simpa using step j)
     rcases List.mem_append.1 hz with hz | hz
     ·rw [List.pairwise_append] at h2
      exact Xc z x y (h2.2.2 z hz x (by simp)) hlx
     ·obtain rfl:=List.mem_singleton.1 hz; exact hlx
  ·refine .inl ⟨1,by decide,fun j=>?_⟩
   have s:=step j
   simp only [Bool.not_eq_true] at hr
   rw [hr] at s
   simpa using s
theorem ET : ∀ (l : List An),l.Pairwise (fun x y=>Om x y = true) → ∃ Gs : List (List An),l = Gs.flatten ∧ (∀ g ∈ Gs,One g) ∧ Gs.Pairwise (fun g g'=>∀ x ∈ g,∀ y ∈ g',x.Race ≠ y.Race)
 | [],_=>⟨[],rfl,(fun _ h=>by cases h),List.Pairwise.nil⟩
 | x :: r,h=>by
  obtain ⟨hx,hr⟩:=List.pairwise_cons.1 h
  obtain ⟨Gs,e,h1,h2⟩:=ET r hr
  cases Gs with
  | nil=>exact ⟨[[x]],by rw [e]; rfl,fun g hg=>by
    obtain rfl:=List.mem_singleton.1 hg
    exact ⟨by simp,fun a ha b hb=>by obtain rfl:=List.mem_singleton.1 ha; obtain rfl:=List.mem_singleton.1 hb; rfl⟩,by simp⟩
  | cons g Gs =>
   obtain ⟨k1,k2⟩:=List.pairwise_cons.1 h2
   have hg:=h1 g List.mem_cons_self
   obtain ⟨z,g',rfl⟩ : ∃ z g',g = z :: g':=by
    cases g with
    | nil=>exact (hg.1 rfl).elim
    | cons z g'=>exact ⟨z,g',rfl⟩
   by_cases hz : x.Race = z.Race
   ·refine ⟨(x :: z :: g') :: Gs,by rw [e]; rfl,fun q hq=>?_,List.pairwise_cons.2 ⟨fun q hq a ha b hb=>?_,k2⟩⟩
    ·rcases List.mem_cons.1 hq with rfl | hq
     ·refine ⟨by simp,fun a ha b hb=>?_⟩
      have all : ∀ c ∈ x :: z :: g',c.Race = z.Race:=fun c hc=>by
       rcases List.mem_cons.1 hc with rfl | hc
       ·exact hz
       ·exact hg.2 c hc z (by simp)
      rw [all a ha,all b hb]
     ·exact h1 q (List.mem_cons_of_mem _ hq)
    ·rcases List.mem_cons.1 ha with rfl | ha
     ·rw [hz]; exact k1 q hq z (by simp) b hb
     ·exact k1 q hq a ha b hb
   ·have lt : ∀ b ∈ r,cB x.Race b.Race < 0:=fun b hb=>by
     have hzr : z ∈ r:=by rw [e]; simp
     have xz : cB x.Race z.Race < 0:=by
      rcases Pe.1 (hx z hzr) with h | ⟨h,_⟩
      ·exact h
      ·exact (hz h).elim
     rw [e] at hr hb
     rw [List.flatten_cons,List.cons_append] at hr hb
     rcases List.mem_cons.1 hb with rfl | hb
     ·exact xz
     ·rcases Pe.1 ((List.pairwise_cons.1 hr).1 b hb) with h | ⟨h,_⟩
      ·exact Sm xz h
      ·rw [← h]; exact xz
    refine ⟨[x] :: (z :: g') :: Gs,by rw [e]; rfl,fun q hq=>?_,List.pairwise_cons.2 ⟨fun q hq a ha b hb=>?_,h2⟩⟩
    ·rcases List.mem_cons.1 hq with rfl | hq
     ·exact ⟨by simp,fun a ha b hb=>by obtain rfl:=List.mem_singleton.1 ha; obtain rfl:=List.mem_singleton.1 hb; rfl⟩
     ·exact h1 q hq
    ·obtain rfl:=List.mem_singleton.1 ha
     have : b ∈ r:=by rw [e]; exact List.mem_flatten.2 ⟨q,hq,hb⟩
     have h3:=lt b this
     intro e'
     rw [e',Pn] at h3; omega
end Go.Proofs.YtocmlionnalaaaaGreatDoor
namespace Go.Proofs.YtocmlionnalaaaaGreatDoor
open Go
def Nb (l : List An) (y : An) : Nat:=l.countP fun o=>decide (o.Race = y.Race) && (decide (0 < o.Rank) && decide (o.Rank < y.Rank))
def Sn (l : List An) (y : An) : Nat:=l.countP fun o=>decide (o.Race = y.Race) && decide (o.Rank = y.Rank)
def Jn (l : List An) (y : An) : Bool:=decide (0 < y.Rank) && !decide (y.Rank = (Nb l y : Int) + 1)
def Pi (l : List An) (y : An) : Bool:=decide (0 < y.Rank) && decide (10 < (Sn l y : Int))
def Vi (l : List An) (y : An) : Bool:=l.any fun o=>decide (o.Race = y.Race) && !decide (o.Relay = y.Relay)
def twI (y : An) (i : Nat) : List An → Nat → Bool
 | [],_=>false
 | o :: os,k=>(decide (o.Race = y.Race) && (!decide ((k : Int) = (i : Int)) && decide (o.Who = y.Who))) || twI y i os (k + 1)
def twR (l : List An) : List An → Nat → Bool
 | [],_=>false
 | y :: ys,i=>twI y i l 0 || twR l ys (i + 1)
theorem BA (y : An) (i : Nat) (j : Bool → Bool → Int → Int → Option Int) : ∀ (ys : List An) (k : Nat) (x6 x7 : Bool) (x8 x9 : Int),0 ≤ x8 → x8 + ys.length ≤ 10000 → 0 ≤ x9 → x9 + ys.length ≤ 10000 →
  Eo y i j ys k x6 x7 x8 x9 = j (x6 || twI y i ys k) (x7 || Vi ys y) (x8 + Nb ys y) (x9 + Sn ys y)
 | [],k,x6,x7,x8,x9,_,_,_,_=>by simp [Eo,twI,Vi,Nb,Sn]
 | o :: ys,k,x6,x7,x8,x9,h1,h2,h3,h4=>by
  simp only [List.length_cons] at h2 h4
  rw [Eo]
  simp only [Ia]
  by_cases hr : o.Race = y.Race
  ·rw [if_neg (by simp [hr])]
   have go : ∀ (u v : Int),u = x8 + (if (decide (0 < o.Rank) && decide (o.Rank < y.Rank)) = true then 1 else 0) → v = x9 + (if decide (o.Rank = y.Rank) = true then 1 else 0) →
     Eo y i j ys (k + 1) (x6 || ((!decide ((k : Int) = (i : Int))) && (decide (o.Who = y.Who)))) (x7 || (!decide (o.Relay = y.Relay))) u v = j (x6 || twI y i (o :: ys) k) (x7 || Vi (o :: ys) y) (x8 + Nb (o :: ys) y) (x9 + Sn (o :: ys) y):=by
    intro u v hu hv
    rw [BA y i j ys (k + 1) _ _ u v (by split at hu <;> omega) (by split at hu <;> omega) (by split at hv <;> omega) (by split at hv <;> omega)]
    have t1 : twI y i (o :: ys) k = (((!decide ((k : Int) = (i : Int))) && (decide (o.Who = y.Who))) || twI y i ys (k + 1)):=by rw [twI,hr]; simp
    have t2 : Vi (o :: ys) y = ((!decide (o.Relay = y.Relay)) || Vi ys y):=by unfold Vi; rw [List.any_cons,hr]; simp
    have t3 : (Nb (o :: ys) y : Int) = (Nb ys y : Int) + (if (decide (0 < o.Rank) && decide (o.Rank < y.Rank)) = true then 1 else 0):=by
     unfold Nb
     rw [List.countP_cons,hr]
     simp only [decide_true,Bool.true_and]
     split <;> simp
    have t4 : (Sn (o :: ys) y : Int) = (Sn ys y : Int) + (if decide (o.Rank = y.Rank) = true then 1 else 0):=by
     unfold Sn
     rw [List.countP_cons,hr]
     simp only [decide_true,Bool.true_and]
     split <;> simp
    rw [t1,t2,t3,t4,hu,hv,Bool.or_assoc,Bool.or_assoc]
    congr 1 <;> omega
   by_cases c1 : (decide (0 < o.Rank) && decide (o.Rank < y.Rank)) = true
   ·rw [if_pos c1,Jw (n:=x8 + 1) (by omega) (by omega)]
    by_cases c2 : decide (o.Rank = y.Rank) = true
    ·rw [if_pos c2,Jw (n:=x9 + 1) (by omega) (by omega)]; exact go _ _ (by rw [if_pos c1]) (by rw [if_pos c2])
    ·rw [if_neg c2]; exact go _ _ (by rw [if_pos c1]) (by rw [if_neg c2]; omega)
   ·rw [if_neg c1]
    by_cases c2 : decide (o.Rank = y.Rank) = true
    ·rw [if_pos c2,Jw (n:=x9 + 1) (by omega) (by omega)]; exact go _ _ (by rw [if_neg c1]; omega) (by rw [if_pos c2])
    ·rw [if_neg c2]; exact go _ _ (by rw [if_neg c1]; omega) (by rw [if_neg c2]; omega)
  ·rw [if_pos (by simp [hr]),BA y i j ys (k + 1) _ _ x8 x9 h1 (by omega) h3 (by omega)]
   simp [twI,Vi,Nb,Sn,hr]
theorem EU (l : List An) (hl : l.length ≤ 1000) (j : Bool → Bool → Bool → Bool → Option Int) : ∀ (ys : List An) (i : Nat) (x2 x3 x4 x5 : Bool),
  Ep l j ys i x2 x3 x4 x5 = j (x2 || twR l ys i) (x3 || ys.any (Vi l)) (x4 || ys.any (Jn l)) (x5 || ys.any (Pi l))
 | [],i,x2,x3,x4,x5=>by simp [Ep,twR]
 | y :: ys,i,x2,x3,x4,x5=>by
  rw [Ep]
  simp only [Ia]
  rw [BA y i _ l 0 x2 x3 0 0 (by omega) (by omega) (by omega) (by omega)]
  have hb : Nb l y ≤ 1000:=Nat.le_trans List.countP_le_length hl
  rw [EU l hl j ys (i + 1)]
  simp only [Int.zero_add,twR,List.any_cons,Bool.or_assoc,Jn,Pi]
  rw [Jw (by omega) (by omega)]
theorem DE (l : List An) (hl : l.length ≤ 1000) : Ep l (fun (x2 : Bool) (x3 : Bool) (x4 : Bool) (x5 : Bool)=>Fl (some 0) ([(Di.mk x2 6),(Di.mk x3 3),(Di.mk x4 16),(Di.mk x5 12)] : List Di) 0) l 0 false false false false =
  some (if twR l l 0 then 6 else if l.any (Vi l) then 3 else if l.any (Jn l) then 16 else if l.any (Pi l) then 12 else 0):=by
 rw [EU l hl]
 simp only [Bool.false_or,Fl]
 cases twR l l 0 <;> cases l.any (Vi l) <;> cases l.any (Jn l) <;> cases l.any (Pi l) <;> rfl
def Dif (x y : An) : Prop:=¬ (x.Race = y.Race ∧ x.Who = y.Who)
theorem Zg (y : An) (i : Nat) : ∀ (l : List An) (k : Nat),twI y i l k = true ↔ ∃ (q : Nat) (o : An),l[q]? = some o ∧ o.Race = y.Race ∧ k + q ≠ i ∧ o.Who = y.Who
 | [],k=>by simp [twI]
 | o :: l,k=>by
  rw [twI,Bool.or_eq_true,Zg y i l (k + 1)]
  constructor
  ·rintro (h | ⟨q,z,h1,h2,h3,h4⟩)
   ·simp only [Bool.and_eq_true,decide_eq_true_eq,Bool.not_eq_true',decide_eq_false_iff_not] at h
    exact ⟨0,o,rfl,h.1,by omega,h.2.2⟩
   ·exact ⟨q + 1,z,h1,h2,by omega,h4⟩
  ·rintro ⟨q,z,h1,h2,h3,h4⟩
   cases q with
   | zero =>
    left
    have : o = z:=by simpa using h1
    subst this
    simp only [Bool.and_eq_true,decide_eq_true_eq,Bool.not_eq_true',decide_eq_false_iff_not]
    exact ⟨h2,by omega,h4⟩
   | succ q=>right; exact ⟨q,z,h1,h2,by omega,h4⟩
theorem CI (l : List An) : ∀ (ys : List An) (i : Nat),twR l ys i = true ↔ ∃ (p : Nat) (y : An),ys[p]? = some y ∧ twI y (i + p) l 0 = true
 | [],i=>by simp [twR]
 | y :: ys,i=>by
  rw [twR,Bool.or_eq_true,CI l ys (i + 1)]
  constructor
  ·rintro (h | ⟨p,z,h1,h2⟩)
   ·exact ⟨0,y,rfl,h⟩
   ·exact ⟨p + 1,z,h1,by rw [show i + (p + 1) = i + 1 + p by omega]; exact h2⟩
  ·rintro ⟨p,z,h1,h2⟩
   cases p with
   | zero =>
    left
    have : y = z:=by simpa using h1
    subst this
    exact h2
   | succ p=>right; exact ⟨p,z,h1,by rw [show i + 1 + p = i + (p + 1) by omega]; exact h2⟩
theorem AC (l : List An) : twR l l 0 = false ↔ l.Pairwise Dif:=by
 rw [← Bool.not_eq_true,CI,List.pairwise_iff_getElem]
 constructor
 ·intro h i j hi hj hij hd
  refine h ⟨i,l[i],by simp,?_⟩
  rw [Zg]
  exact ⟨j,l[j],by simp,hd.1.symm,by omega,hd.2.symm⟩
 ·rintro h ⟨p,y,h1,h2⟩
  obtain ⟨q,o,h3,h4,h5,h6⟩:=(Zg _ _ _ _).1 h2
  obtain ⟨hp,rfl⟩:=List.getElem?_eq_some_iff.1 h1
  obtain ⟨hq,rfl⟩:=List.getElem?_eq_some_iff.1 h3
  rcases Nat.lt_or_ge p q with g | g
  ·exact h p q hp hq g ⟨h4.symm,h6.symm⟩
  ·exact h q p hq hp (by omega) ⟨h4,h6⟩
theorem AD (j : List (Cv × Bool) → Option Int) (l : List An) (hw : l.Pairwise Dif) : ∀ (ys dn : List An) (m : List (Cv × Bool)),l = dn ++ ys → (∀ e,Cr m e false = true → ∃ x ∈ dn,e = Cv.mk x.Race x.Who) →
  ∃ m',Gb j ys dn.length m = j m'
 | [],dn,m,_,_=>⟨m,rfl⟩
 | y :: ys,dn,m,h1,h2=>by
  have hno : Cr m (Cv.mk y.Race y.Who) false = false:=by
   cases hm : Cr m (Cv.mk y.Race y.Who) false with
   | false=>rfl
   | true =>
    obtain ⟨x,hx,e⟩:=h2 _ hm
    rw [h1,List.pairwise_append] at hw
    injection e with e1 e2
    exact (hw.2.2 x hx y List.mem_cons_self ⟨e1.symm,e2.symm⟩).elim
  rw [Gb,hno,if_neg (by simp)]
  obtain ⟨m',e⟩:=AD j l hw ys (dn ++ [y]) (Mo m (Cv.mk y.Race y.Who) true) (by rw [h1]; simp) (fun e he=>by
   rw [Pm] at he
   split at he
   ·rename_i hk; exact ⟨y,by simp,hk⟩
   ·obtain ⟨x,hx,e'⟩:=h2 e he; exact ⟨x,by simp [hx],e'⟩)
  rw [List.length_append,List.length_singleton] at e
  exact ⟨m',e⟩
theorem Yj (j : List (Cv × Bool) → Option Int) : ∀ (ys dn : List An) (m : List (Cv × Bool)) (i : Nat),dn.Pairwise Dif → ¬ (dn ++ ys).Pairwise Dif → (∀ x ∈ dn,Cr m (Cv.mk x.Race x.Who) false = true) →
  Gb j ys i m = some 6
 | [],dn,m,i,h1,h2,_=>by rw [List.append_nil] at h2; exact (h2 h1).elim
 | y :: ys,dn,m,i,h1,h2,h3=>by
  rw [Gb]
  by_cases hm : Cr m (Cv.mk y.Race y.Who) false = true
  ·rw [if_pos hm]
  ·rw [if_neg hm]
   refine Yj j ys (dn ++ [y]) _ (i + 1) ?_ (by rw [List.append_assoc]; exact h2) (fun x hx=>?_)
   ·rw [List.pairwise_append]
    refine ⟨h1,by simp,fun x hx z hz hd=>?_⟩
    obtain rfl:=List.mem_singleton.1 hz
    refine hm ?_
    rw [← hd.1,← hd.2]
    exact h3 x hx
   ·rw [Pm]
    split
    ·rfl
    ·rename_i hk
     rcases List.mem_append.1 hx with hx | hx
     ·exact h3 x hx
     ·obtain rfl:=List.mem_singleton.1 hx; exact (hk rfl).elim
theorem idx_l (g : List An) (hin : inB 0 g.length = true) : ∀ (ys : List An) (i : Nat),∃ r,Da g (some (-1)) ys i = some r ∧ decide (0 ≤ r) = ys.any fun x=>!decide (x.Relay = (nth g 0).Relay)
 | [],i=>⟨-1,rfl,by simp⟩
 | y :: ys,i=>by
  rw [Da]
  unfold Lu
  rw [Hl hin,Option.bind_some]
  cases hc : !decide (y.Relay = (nth g 0).Relay) with
  | true=>rw [if_pos rfl]; exact ⟨i,rfl,by simp [hc]⟩
  | false =>
   rw [if_neg (by simp)]
   obtain ⟨r,e1,e2⟩:=idx_l g hin ys (i + 1)
   exact ⟨r,e1,by rw [e2,List.any_cons,hc,Bool.false_or]⟩
def AE (g : List An) : Bool:=g.any fun x=>!decide (x.Relay = (nth g 0).Relay)
theorem EV (j : Option Int) : ∀ (Gs : List (List An)) (i : Nat),(∀ g ∈ Gs,One g) → Gq j Gs i = if Gs.any AE then some 3 else j
 | [],_,_=>rfl
 | g :: Gs,i,h=>by
  have hg:=(h g List.mem_cons_self).1
  have hin : inB 0 g.length = true:=Ge.2 ⟨Int.le_refl _,by cases g with | nil=>exact (hg rfl).elim | cons a b=>simp⟩
  rw [Gq]
  unfold Fx Gh
  simp only [Ia]
  obtain ⟨r,e1,e2⟩:=idx_l g hin g 0
  rw [e1,Option.bind_some,Option.bind_some,e2,List.any_cons]
  rw [EV j Gs (i + 1) (fun q hq=>h q (List.mem_cons_of_mem _ hq))]
  show (if AE g = true then _ else _) = _
  cases AE g <;> rfl
end Go.Proofs.YtocmlionnalaaaaGreatDoor
namespace Go.Proofs.YtocmlionnalaaaaGreatDoor
open Go
structure Gr (g : List An) : Prop where
 race : ∀ x ∈ g,∀ y ∈ g,x.Race = y.Race
 ord : g.Pairwise fun x y=>Om x y = true
 rr : ∀ x ∈ g,RR x
 len : g.length ≤ 1000
theorem Gr.le {g : List An} (h : Gr g) : g.Pairwise fun x y=>kR x ≤ kR y:=by
 have h2 : g.Pairwise fun x y=>x.Race = y.Race:=by
  rw [List.pairwise_iff_getElem]
  exact fun i j hi hj _=>h.race _ (List.getElem_mem hi) _ (List.getElem_mem hj)
 refine (h.ord.and h2).imp ?_
 rintro x y ⟨a,b⟩
 rcases Pe.1 a with a | ⟨_,a⟩
 ·rw [b,Pn] at a; omega
 ·omega
theorem So {x : An} (h : RR x) (h' : 0 < x.Rank) : kR x = x.Rank:=by unfold kR; rw [if_neg (by omega)]
theorem Qt {x : An} (h : RR x) (h' : kR x ≤ 300) : kR x = x.Rank ∧ 0 < x.Rank:=by
 have:=h.1
 unfold kR at h' ⊢
 split at h'
 ·omega
 ·rename_i hz
  rw [if_neg hz]; omega
theorem Rq {g dn ys : List An} {y : An} (h : Gr g) (hg : g = dn ++ y :: ys) (hp : 0 < y.Rank) : Nb g y = dn.countP fun o=>decide (0 < o.Rank) && decide (o.Rank < y.Rank):=by
 have hy : y ∈ g:=by rw [hg]; simp
 have hle:=h.le
 rw [hg,List.pairwise_append,List.pairwise_cons] at hle
 have ky:=So (h.rr y hy) hp
 unfold Nb
 rw [hg,List.countP_append,List.countP_cons]
 have z : ys.countP (fun o=>decide (o.Race = y.Race) && (decide (0 < o.Rank) && decide (o.Rank < y.Rank))) = 0:=by
  rw [List.countP_eq_zero]
  intro o ho
  have h1:=hle.2.1.1 o ho
  simp only [Bool.and_eq_true,decide_eq_true_eq,not_and]
  intro _ h2 h3
  rw [So (h.rr o (by rw [hg]; simp [ho])) h2] at h1
  omega
 rw [z,if_neg (by simp),Nat.add_zero]
 refine List.countP_congr fun o ho=>?_
 rw [h.race o (by rw [hg]; simp [ho]) y hy]
 simp
theorem Xe {g : List An} (h : Gr g) {x y : An} (hx : x ∈ g) (hy : y ∈ g) (e : x.Rank = y.Rank) : Jn g x = Jn g y:=by
 unfold Jn Nb
 rw [e,h.race x hx y hy]
theorem EW {g : List An} (h : Gr g) (j : Option Int) : ∀ (ys dn : List An),g = dn ++ ys → (∀ x ∈ dn,Jn g x = false) → Gt g j ys dn.length = if ys.any (Jn g) then some 16 else j
 | [],_,_,_=>rfl
 | y :: ys,dn,hg,hw=>by
  have hy : y ∈ g:=by rw [hg]; simp
  have hdl : dn.length ≤ 1000:=by have:=h.len; rw [hg] at this; simp at this; omega
  have hW : W ((dn.length : Int) + 1) = (dn.length : Int) + 1:=Jw (by omega) (by omega)
  have next : Jn g y = false → Gt g j ys (dn.length + 1) = if (y :: ys).any (Jn g) then some 16 else j:=by
   intro hf
   have ih:=EW h j ys (dn ++ [y]) (by rw [hg]; simp) (fun x hx=>by
    rcases List.mem_append.1 hx with hx | hx
    ·exact hw x hx
    ·obtain rfl:=List.mem_singleton.1 hx; exact hf)
   rw [List.length_append,List.length_singleton] at ih
   rw [ih,List.any_cons,hf,Bool.false_or]
  have yes : Jn g y = true → some (16 : Int) = if (y :: ys).any (Jn g) then some 16 else j:=by
   intro hf; rw [List.any_cons,hf,Bool.true_or,if_pos rfl]
  rw [Gt]
  simp only [Ia,hW]
  cases hA : ((decide (0 < y.Rank)) && (!decide (y.Rank = (dn.length : Int) + 1))) with
  | false =>
   simp only [Bool.false_eq_true,if_false,Bool.false_and]
   refine next ?_
   by_cases hp : 0 < y.Rank
   ·have e : y.Rank = (dn.length : Int) + 1:=by simpa [hp] using hA
    rcases List.eq_nil_or_concat dn with rfl | ⟨d,x,rfl⟩
    ·unfold Jn; rw [Rq h hg hp,e]; simp
    ·simp only [List.concat_eq_append] at *
     have hx : x ∈ g:=by rw [hg]; simp
     by_cases hxy : x.Rank = y.Rank
     ·rw [Xe h hy hx hxy.symm]; exact hw x (by simp)
     ·unfold Jn
      rw [Rq h hg hp]
      have all : (d ++ [x]).countP (fun o=>decide (0 < o.Rank) && decide (o.Rank < y.Rank)) = (d ++ [x]).length:=by
       rw [List.countP_eq_length]
       intro o ho
       have hle:=h.le
       rw [hg,List.pairwise_append] at hle
       have ky:=So (h.rr y hy) hp
       have k1:=hle.2.2 x (by simp) y (by simp)
       have yr:=(h.rr y hy).2
       have k2 : kR x ≠ kR y:=fun e2=>by
        have:=(Qt (h.rr x hx) (by omega)).1; omega
       have k3 : kR o ≤ kR x:=by
        rcases List.mem_append.1 ho with ho | ho
        ·have:=hle.1; rw [List.pairwise_append] at this; exact this.2.2 o ho x (by simp)
        ·obtain rfl:=List.mem_singleton.1 ho; omega
       have k4:=Qt (h.rr o (by rw [hg]; exact List.mem_append_left _ ho)) (by omega)
       simp only [Bool.and_eq_true,decide_eq_true_eq]
       omega
      rw [all,e]; simp
   ·unfold Jn; simp [hp]
  | true =>
   have hp : 0 < y.Rank:=by simp at hA; exact hA.1
   have hne : y.Rank ≠ (dn.length : Int) + 1:=by simp at hA; exact hA.2
   simp only [if_true,Bool.true_and]
   rcases List.eq_nil_or_concat dn with rfl | ⟨d,x,rfl⟩
   ·simp only [List.length_nil,Int.natCast_zero,decide_true,if_true,Bool.or_true]
    refine yes ?_
    unfold Jn
    rw [Rq h hg hp]
    simp only [List.countP_nil,Int.natCast_zero,hp,decide_true,Bool.true_and]
    simpa using hne
   ·simp only [List.concat_eq_append] at *
    have hx : x ∈ g:=by rw [hg]; simp
    have hlen : ((d ++ [x]).length : Int) = (d.length : Int) + 1:=by simp
    have hw1 : W (((d ++ [x]).length : Int) - 1) = (d.length : Int):=by
     rw [hlen,show (d.length : Int) + 1 - 1 = (d.length : Int) by omega,Jw (by omega) (by simp at hdl; omega)]
    have hn : nth g (d.length : Int) = x:=by unfold nth; rw [hg]; simp
    have hin : inB (d.length : Int) g.length = true:=by rw [Ge,hg]; simp; omega
    have h0 : decide (((d ++ [x]).length : Int) = 0) = false:=by rw [hlen]; simp; omega
    rw [h0,hw1,hn]
    simp only [Bool.false_eq_true,if_false,Hl hin,Bool.false_or]
    by_cases hxy : x.Rank = y.Rank
    ·rw [if_neg (by simp [hxy])]
     refine next ?_
     rw [Xe h hy hx hxy.symm]; exact hw x (by simp)
    ·rw [if_pos (by simp; exact fun e=>hxy e.symm)]
     refine yes ?_
     unfold Jn
     rw [Rq h hg hp]
     have all : (d ++ [x]).countP (fun o=>decide (0 < o.Rank) && decide (o.Rank < y.Rank)) = (d ++ [x]).length:=by
      rw [List.countP_eq_length]
      intro o ho
      have hle:=h.le
      rw [hg,List.pairwise_append] at hle
      have ky:=So (h.rr y hy) hp
      have k1:=hle.2.2 x (by simp) y (by simp)
      have yr:=(h.rr y hy).2
      have k2 : kR x ≠ kR y:=fun e2=>by
       have:=(Qt (h.rr x hx) (by omega)).1; omega
      have k3 : kR o ≤ kR x:=by
       rcases List.mem_append.1 ho with ho | ho
       ·have:=hle.1; rw [List.pairwise_append] at this; exact this.2.2 o ho x (by simp)
       ·obtain rfl:=List.mem_singleton.1 ho; omega
      have k4:=Qt (h.rr o (by rw [hg]; exact List.mem_append_left _ ho)) (by omega)
      simp only [Bool.and_eq_true,decide_eq_true_eq]
      omega
     rw [all]
     simp [hp]
     simpa using hne
theorem EX (j : Option Int) : ∀ (Gs : List (List An)) (i : Nat),(∀ g ∈ Gs,Gr g) → Gc j Gs i = if Gs.any (fun g=>g.any (Jn g)) then some 16 else j
 | [],_,_=>rfl
 | g :: Gs,i,h=>by
  rw [Gc]
  simp only [Ia]
  have e:=EW (h g List.mem_cons_self) (Gc j Gs (i + 1)) g [] rfl (fun _ hx=>by cases hx)
  rw [List.length_nil] at e
  rw [e,EX j Gs (i + 1) (fun q hq=>h q (List.mem_cons_of_mem _ hq)),List.any_cons]
  cases g.any (Jn g) <;> simp
def BB (g : List An) (q : Nat) : Prop:=∃ (x z : An),10 ≤ q ∧ g[q]? = some x ∧ g[q - 10]? = some z ∧ 0 < x.Rank ∧ x.Rank = z.Rank
theorem EY {g : List An} (hl : g.length ≤ 1000) (j : Option Int) : ∀ (d m i : Nat),g.length ≤ i + d → d < m → 10 ≤ i → ((∃ q,i ≤ q ∧ BB g q) → Er g j m (i : Int) = some 12) ∧ ((∀ q,i ≤ q → ¬ BB g q) → Er g j m (i : Int) = j)
 | d,0,i,_,h,_=>by omega
 | d,m + 1,i,h1,h2,h3=>by
  rw [Er]
  by_cases hi : i < g.length
  ·rw [if_pos (decide_eq_true (by omega))]
   have hin : inB (i : Int) g.length = true:=Ge.2 (by omega)
   have hw : W ((i : Int) - 10) = ((i - 10 : Nat) : Int):=by rw [Jw (by omega) (by omega)]; omega
   have hin2 : inB ((i - 10 : Nat) : Int) g.length = true:=Ge.2 (by omega)
   have hw1 : W ((i : Int) + 1) = ((i + 1 : Nat) : Int):=by rw [Jw (by omega) (by omega)]; omega
   have e1 : g[i]? = some (nth g (i : Int)):=(Cn hin).1
   have e2 : g[i - 10]? = some (nth g ((i - 10 : Nat) : Int)):=(Cn hin2).1
   simp only [Ia,hw,hw1,Hl hin,Hl hin2]
   obtain ⟨ih1,ih2⟩:=EY hl j (d - 1) m (i + 1) (by omega) (by omega) (by omega)
   by_cases hf : 0 < (nth g (i : Int)).Rank ∧ (nth g (i : Int)).Rank = (nth g ((i - 10 : Nat) : Int)).Rank
   ·have he : (if decide (0 < (nth g (i : Int)).Rank) = true then (if (decide (0 < (nth g (i : Int)).Rank) && decide ((nth g (i : Int)).Rank = (nth g ((i - 10 : Nat) : Int)).Rank)) = true then some 12 else Er g j m ((i + 1 : Nat) : Int)) else (if (decide (0 < (nth g (i : Int)).Rank) && true) = true then some 12 else Er g j m ((i + 1 : Nat) : Int))) = some (12 : Int):=by
     simp [hf.1,hf.2]
     intro hn; have:=hf.1; have:=hf.2; omega
    rw [he]
    exact ⟨fun _=>rfl,fun hn=>(hn i (Nat.le_refl _) ⟨_,_,h3,e1,e2,hf.1,hf.2⟩).elim⟩
   ·have he : (if decide (0 < (nth g (i : Int)).Rank) = true then (if (decide (0 < (nth g (i : Int)).Rank) && decide ((nth g (i : Int)).Rank = (nth g ((i - 10 : Nat) : Int)).Rank)) = true then some 12 else Er g j m ((i + 1 : Nat) : Int)) else (if (decide (0 < (nth g (i : Int)).Rank) && true) = true then some 12 else Er g j m ((i + 1 : Nat) : Int))) = Er g j m ((i + 1 : Nat) : Int):=by
     by_cases hp : 0 < (nth g (i : Int)).Rank
     ·have : ¬ (nth g (i : Int)).Rank = (nth g ((i - 10 : Nat) : Int)).Rank:=fun e=>hf ⟨hp,e⟩
      simp [hp,this]
     ·simp [hp]
    rw [he]
    refine ⟨fun ⟨q,hq,hqf⟩=>ih1 ⟨q,?_,hqf⟩,fun hn=>ih2 fun q hq=>hn q (by omega)⟩
    rcases Nat.lt_or_ge i q with g1 | g1
    ·exact g1
    ·exfalso
     have : q = i:=by omega
     subst this
     obtain ⟨x,z,_,a1,a2,a3,a4⟩:=hqf
     rw [e1] at a1; rw [e2] at a2
     cases a1; cases a2
     exact hf ⟨a3,a4⟩
  ·rw [if_neg (by simp; omega)]
   refine ⟨fun ⟨q,hq,x,z,_,a1,_⟩=>?_,fun _=>rfl⟩
   rw [List.getElem?_eq_none (by omega)] at a1; cases a1
theorem AF {r : Int} : ∀ (g : List An),(∃ y ∈ g,y.Rank = r) → ∃ a x b,g = a ++ x :: b ∧ (∀ z ∈ a,z.Rank ≠ r) ∧ x.Rank = r
 | [],h=>by obtain ⟨y,hy,_⟩:=h; cases hy
 | y :: g,h=>by
  by_cases hy : y.Rank = r
  ·exact ⟨[],y,g,rfl,(fun _ hz=>by cases hz),hy⟩
  ·obtain ⟨a,x,b,e,h1,h2⟩:=AF g (by
    obtain ⟨z,hz,e⟩:=h
    rcases List.mem_cons.1 hz with rfl | hz
    ·exact (hy e).elim
    ·exact ⟨z,hz,e⟩)
   refine ⟨y :: a,x,b,by rw [e]; rfl,fun z hz=>?_,h2⟩
   rcases List.mem_cons.1 hz with rfl | hz
   ·exact hy
   ·exact h1 z hz
theorem AG {g : List An} (h : Gr g) : (∃ q,10 ≤ q ∧ BB g q) ↔ g.any (Pi g) = true:=by
 have hle:=List.pairwise_iff_getElem.1 h.le
 have mono : ∀ (i j : Nat) (x z : An),i ≤ j → g[i]? = some x → g[j]? = some z → kR x ≤ kR z:=by
  intro i j x z hij hx hz
  obtain ⟨h1,rfl⟩:=List.getElem?_eq_some_iff.1 hx
  obtain ⟨h2,rfl⟩:=List.getElem?_eq_some_iff.1 hz
  rcases Nat.lt_or_ge i j with g1 | g1
  ·exact hle i j h1 h2 g1
  ·have : i = j:=by omega
   subst this; exact Int.le_refl _
 have mem : ∀ (i : Nat) (x : An),g[i]? = some x → x ∈ g:=fun i x hx=>List.mem_of_getElem? hx
 rw [List.any_eq_true]
 constructor
 ·rintro ⟨q,_,x,z,hq,hx,hz,hp,e⟩
  refine ⟨x,mem _ _ hx,?_⟩
  unfold Pi Sn
  simp only [Bool.and_eq_true,decide_eq_true_eq]
  refine ⟨hp,?_⟩
  have hql:=(List.getElem?_eq_some_iff.1 hx).1
  have sub : ((g.drop (q - 10)).take 11).Sublist g:=(List.take_sublist _ _).trans (List.drop_sublist _ _)
  have len : ((g.drop (q - 10)).take 11).length = 11:=by rw [List.length_take,List.length_drop]; omega
  have c:=sub.countP_le (p:=fun o : An=>decide (o.Race = x.Race) && decide (o.Rank = x.Rank))
  have all : ((g.drop (q - 10)).take 11).countP (fun o=>decide (o.Race = x.Race) && decide (o.Rank = x.Rank)) = ((g.drop (q - 10)).take 11).length:=by
   rw [List.countP_eq_length]
   intro o ho
   obtain ⟨t,ht⟩:=List.getElem?_of_mem ho
   have htl : t < 11:=by rw [← len]; exact (List.getElem?_eq_some_iff.1 ht).1
   rw [List.getElem?_take_of_lt htl,List.getElem?_drop] at ht
   have k1:=mono (q - 10) (q - 10 + t) z o (by omega) hz ht
   have k2:=mono (q - 10 + t) q o x (by omega) ht hx
   have xr:=h.rr x (mem _ _ hx)
   have kx:=So xr hp
   have kz:=So (h.rr z (mem _ _ hz)) (by omega)
   have:=(Qt (h.rr o (mem _ _ ht)) (by have:=xr.2; omega)).1
   simp only [Bool.and_eq_true,decide_eq_true_eq]
   exact ⟨h.race o (mem _ _ ht) x (mem _ _ hx),by omega⟩
  rw [all,len] at c
  omega
 ·rintro ⟨y,hy,hf⟩
  unfold Pi Sn at hf
  simp only [Bool.and_eq_true,decide_eq_true_eq] at hf
  obtain ⟨hp,hc⟩:=hf
  obtain ⟨a,x,b,e,h1,h2⟩:=AF g ⟨y,hy,rfl⟩
  rcases Classical.em (∃ z ∈ (x :: b).drop 10,z.Rank = y.Rank) with ⟨z,hz,hzr⟩ | hno
  ·obtain ⟨t,ht⟩:=List.getElem?_of_mem hz
   rw [List.getElem?_drop] at ht
   have hz' : g[a.length + 10 + t]? = some z:=by rw [e,List.getElem?_append_right (by omega)]; rw [← ht]; congr 1; omega
   have hx' : g[a.length]? = some x:=by rw [e]; simp
   have hlt:=(List.getElem?_eq_some_iff.1 hz').1
   obtain ⟨u,hu⟩ : ∃ u,g[a.length + t]? = some u:=⟨g[a.length + t]'(by omega),by simp⟩
   have k1:=mono a.length (a.length + t) x u (by omega) hx' hu
   have k2:=mono (a.length + t) (a.length + 10 + t) u z (by omega) hu hz'
   have yr:=(h.rr y hy).2
   have kx:=So (h.rr x (mem _ _ hx')) (by omega)
   have kz:=So (h.rr z (mem _ _ hz')) (by omega)
   have:=(Qt (h.rr u (mem _ _ hu)) (by omega)).1
   exact ⟨a.length + 10 + t,by omega,z,u,by omega,hz',by rw [show a.length + 10 + t - 10 = a.length + t by omega]; exact hu,by omega,by omega⟩
  ·exfalso
   have c1 : a.countP (fun o=>decide (o.Race = y.Race) && decide (o.Rank = y.Rank)) = 0:=by
    rw [List.countP_eq_zero]; intro o ho; simp [h1 o ho]
   have c2 : ((x :: b).drop 10).countP (fun o=>decide (o.Race = y.Race) && decide (o.Rank = y.Rank)) = 0:=by
    rw [List.countP_eq_zero]; intro o ho
    have : o.Rank ≠ y.Rank:=fun e=>hno ⟨o,ho,e⟩
    simp [this]
   have c3 : ((x :: b).take 10).countP (fun o=>decide (o.Race = y.Race) && decide (o.Rank = y.Rank)) ≤ 10:=Nat.le_trans List.countP_le_length (by rw [List.length_take]; omega)
   have c4:=congrArg (List.countP fun o=>decide (o.Race = y.Race) && decide (o.Rank = y.Rank)) (List.take_append_drop 10 (x :: b))
   rw [List.countP_append] at c4
   rw [e,List.countP_append] at hc
   omega
theorem EZ (j : Option Int) : ∀ (Gs : List (List An)) (i : Nat),(∀ g ∈ Gs,Gr g) → Gd j Gs i = if Gs.any (fun g=>g.any (Pi g)) then some 12 else j
 | [],_,_=>rfl
 | g :: Gs,i,h=>by
  have hg:=h g List.mem_cons_self
  rw [Gd]
  simp only [Ia]
  obtain ⟨e1,e2⟩:=EY hg.len (Gd j Gs (i + 1)) (g.length - 10) (((g.length : Int) - 10).toNat + 2) 10 (by omega) (by omega) (Nat.le_refl _)
  rw [List.any_cons]
  cases hf : g.any (Pi g) with
  | true=>rw [Bool.true_or,if_pos rfl]; exact e1 ((AG hg).2 hf)
  | false =>
   rw [Bool.false_or]
   refine (e2 fun q hq hn=>?_).trans (EZ j Gs (i + 1) (fun q hq=>h q (List.mem_cons_of_mem _ hq)))
   rw [(AG hg).1 ⟨q,hq,hn⟩] at hf; cases hf
theorem Un {α : Type} (p : α → Bool) : ∀ (Gs : List (List α)),Gs.flatten.any p = Gs.any fun g=>g.any p
 | []=>rfl
 | g :: Gs=>by rw [List.flatten_cons,List.any_append,List.any_cons,Un p Gs]
theorem Ow {α : Type} {p q : α → Bool} : ∀ (l : List α),(∀ x ∈ l,p x = q x) → l.any p = l.any q
 | [],_=>rfl
 | x :: l,h=>by rw [List.any_cons,List.any_cons,h x List.mem_cons_self,Ow l fun y hy=>h y (List.mem_cons_of_mem _ hy)]
section
variable {Gs : List (List An)} (h2 : Gs.Pairwise (fun g g'=>∀ x ∈ g,∀ y ∈ g',x.Race ≠ y.Race))
include h2
theorem Yk {g : List An} (hg : g ∈ Gs) {y : An} (hy : y ∈ g) : ∃ P Q : List An,Gs.flatten = P ++ (g ++ Q) ∧ (∀ o ∈ P,o.Race ≠ y.Race) ∧ (∀ o ∈ Q,o.Race ≠ y.Race):=by
 obtain ⟨P,Q,rfl⟩:=List.append_of_mem hg
 rw [List.pairwise_append,List.pairwise_cons] at h2
 refine ⟨P.flatten,Q.flatten,by simp,fun o ho=>?_,fun o ho=>?_⟩
 ·obtain ⟨g',hg',ho⟩:=List.mem_flatten.1 ho
  exact h2.2.2 g' hg' g (by simp) o ho y hy
 ·obtain ⟨g',hg',ho⟩:=List.mem_flatten.1 ho
  exact fun e=>h2.2.1.1 g' hg' y hy o ho e.symm
theorem Yl {g : List An} (hg : g ∈ Gs) {y : An} (hy : y ∈ g) (q : An → Bool) : Gs.flatten.countP (fun o=>decide (o.Race = y.Race) && q o) = g.countP (fun o=>decide (o.Race = y.Race) && q o):=by
 obtain ⟨P,Q,e,h3,h4⟩:=Yk h2 hg hy
 rw [e,List.countP_append,List.countP_append]
 have z : ∀ l : List An,(∀ o ∈ l,o.Race ≠ y.Race) → l.countP (fun o=>decide (o.Race = y.Race) && q o) = 0:=fun l hl=>by
  rw [List.countP_eq_zero]; intro o ho; simp [hl o ho]
 rw [z P h3,z Q h4]; omega
theorem any_loc {g : List An} (hg : g ∈ Gs) {y : An} (hy : y ∈ g) (q : An → Bool) : Gs.flatten.any (fun o=>decide (o.Race = y.Race) && q o) = g.any (fun o=>decide (o.Race = y.Race) && q o):=by
 obtain ⟨P,Q,e,h3,h4⟩:=Yk h2 hg hy
 rw [e,List.any_append,List.any_append]
 have z : ∀ l : List An,(∀ o ∈ l,o.Race ≠ y.Race) → l.any (fun o=>decide (o.Race = y.Race) && q o) = false:=fun l hl=>by
  rw [List.any_eq_false]; intro o ho; simp [hl o ho]
 rw [z P h3,z Q h4]; simp
end
theorem mix_grp {g : List An} (h : One g) : (g.any fun y=>g.any fun o=>decide (o.Race = y.Race) && !decide (o.Relay = y.Relay)) = AE g:=by
 obtain ⟨h0,hr⟩:=h
 obtain ⟨z,r,rfl⟩ : ∃ z r,g = z :: r:=by
  cases g with
  | nil=>exact (h0 rfl).elim
  | cons z r=>exact ⟨z,r,rfl⟩
 unfold AE
 have hn : nth (z :: r) 0 = z:=rfl
 rw [hn,Bool.eq_iff_iff,List.any_eq_true,List.any_eq_true]
 constructor
 ·rintro ⟨y,hy,h1⟩
  rw [List.any_eq_true] at h1
  obtain ⟨o,ho,h1⟩:=h1
  simp only [Bool.and_eq_true,decide_eq_true_eq,Bool.not_eq_true',decide_eq_false_iff_not] at h1
  by_cases hyz : y.Relay = z.Relay
  ·refine ⟨o,ho,?_⟩
   simp only [Bool.not_eq_true',decide_eq_false_iff_not]
   rw [← hyz]; exact h1.2
  ·exact ⟨y,hy,by simpa using hyz⟩
 ·rintro ⟨y,hy,h1⟩
  refine ⟨z,by simp,?_⟩
  rw [List.any_eq_true]
  exact ⟨y,hy,by rw [hr y hy z (by simp)]; simpa using h1⟩
theorem DF (l : List An) (hl : l.length ≤ 1000) : ∃ e,Jk l = some e ∧ Ja l = some e ∧ (e = 0 → ∃ Gs : List (List An),l = Gs.flatten ∧ (∀ g ∈ Gs,One g ∧ Gr g) ∧ Gs.Pairwise (fun g g'=>∀ x ∈ g,∀ y ∈ g',x.Race ≠ y.Race) ∧ l.Pairwise Dif ∧ (∀ g ∈ Gs,AE g = false ∧ g.any (Jn g) = false ∧ g.any (Pi g) = false)):=by
 unfold Jk Ja
 rw [if_neg (by simp; omega),if_neg (by simp; omega)]
 simp only [Ia]
 rcases CH l hl l [] rfl (fun _ h=>by cases h) List.Pairwise.nil with ⟨e,he,h⟩ | ⟨ho,hr,h⟩
 ·exact ⟨e,(h _).1,(h _).2,fun h0=>(he h0).elim⟩
 ·have h' : ∀ j,Dh l j l 0 = j ∧ Db l j l 0 = j:=h
  rw [(h' _).1,(h' _).2,DE l hl]
  obtain ⟨Gs,e,g1,g2⟩:=ET l ho
  have gr : ∀ g ∈ Gs,Gr g:=fun g hg=>by
   have sub : g.Sublist l:=by rw [e]; exact List.sublist_flatten_of_mem hg
   exact ⟨(g1 g hg).2,ho.sublist sub,fun x hx=>hr x (sub.subset hx),Nat.le_trans sub.length_le hl⟩
  have hraces : Lt l = some Gs:=by rw [e]; exact EI Gs g1 g2 (by rw [← e]; exact hl)
  have m1 : l.any (Vi l) = Gs.any AE:=by
   rw [show l.any (Vi l) = Gs.flatten.any (Vi Gs.flatten) by rw [← e],Un]
   refine Ow Gs fun g hg=>?_
   rw [← mix_grp (g1 g hg)]
   exact Ow g fun y hy=>any_loc g2 hg hy _
  have m2 : l.any (Jn l) = Gs.any fun g=>g.any (Jn g):=by
   rw [show l.any (Jn l) = Gs.flatten.any (Jn Gs.flatten) by rw [← e],Un]
   refine Ow Gs fun g hg=>Ow g fun y hy=>?_
   unfold Jn Nb
   rw [Yl g2 hg hy]
  have m3 : l.any (Pi l) = Gs.any fun g=>g.any (Pi g):=by
   rw [show l.any (Pi l) = Gs.flatten.any (Pi Gs.flatten) by rw [← e],Un]
   refine Ow Gs fun g hg=>Ow g fun y hy=>?_
   unfold Pi Sn
   rw [Yl g2 hg hy]
  rw [m1,m2,m3]
  unfold Nq
  simp only [Ia]
  by_cases hd : l.Pairwise Dif
  ·obtain ⟨m',em⟩:=AD (fun x1=>Option.bind (Lt l) (fun r1=>Gq (Gc (Gd (some 0) r1 0) r1 0) r1 0)) l hd l [] [] rfl (fun e he=>by simp [Cr,Xh,Mi] at he)
   rw [List.length_nil] at em
   rw [em,hraces,Option.bind_some,EV _ Gs 0 g1,EX _ Gs 0 gr,EZ _ Gs 0 gr,(AC l).2 hd]
   simp only [Bool.false_eq_true,if_false]
   cases c1 : Gs.any AE with
   | true=>exact ⟨3,rfl,rfl,fun h=>by cases h⟩
   | false =>
    cases c2 : Gs.any (fun g=>g.any (Jn g)) with
    | true=>exact ⟨16,rfl,rfl,fun h=>by cases h⟩
    | false =>
     cases c3 : Gs.any (fun g=>g.any (Pi g)) with
     | true=>exact ⟨12,rfl,rfl,fun h=>by cases h⟩
     | false=>exact ⟨0,rfl,rfl,fun _=>⟨Gs,e,fun g hg=>⟨g1 g hg,gr g hg⟩,g2,hd,fun g hg=>⟨by simpa using List.any_eq_false.1 c1 g hg,by simpa using List.any_eq_false.1 c2 g hg,by simpa using List.any_eq_false.1 c3 g hg⟩⟩⟩
  ·have ht : twR l l 0 = true:=by
    cases ht : twR l l 0 with
    | true=>rfl
    | false=>exact (hd ((AC l).1 ht)).elim
   rw [Yj _ l [] [] 0 List.Pairwise.nil hd (fun _ h=>by cases h),ht]
   exact ⟨6,rfl,rfl,fun h=>by cases h⟩
end Go.Proofs.YtocmlionnalaaaaGreatDoor
namespace Go.Proofs.YtocmlionnalaaaaGreatDoor
open Go
def val (f : Ha) : Nat:=(f.Num * 60 / f.Den).toNat
def sumM (m : List (ByteArray × Nat)) : Nat:=(m.map (·.2)).sum
structure MOk (m : List (ByteArray × Nat)) (S : Nat) : Prop where
 nodup : (m.map (·.1)).Nodup
 club : ∀ k ∈ m.map (·.1),k ∈ Rs ∧ k ≠ Co
 sum : sumM m = S
theorem Vj {α : Type} [DecidableEq α] : ∀ (l l' : List α),l.Nodup → (∀ x ∈ l,x ∈ l') → l.length ≤ l'.length
 | [],_,_,_=>by simp
 | x :: l,l',h,hs=>by
  obtain ⟨h1,h2⟩:=List.nodup_cons.1 h
  have hx:=hs x List.mem_cons_self
  have ih:=Vj l (l'.erase x) h2 fun y hy=>(List.mem_erase_of_ne (fun e=>h1 (by rw [← e]; exact hy))).2 (hs y (List.mem_cons_of_mem _ hy))
  rw [List.length_erase_of_mem hx] at ih
  have:=List.length_pos_of_mem hx
  simp only [List.length_cons]; omega
end Go.Proofs.YtocmlionnalaaaaGreatDoor
namespace Go.Proofs.YtocmlionnalaaaaGreatDoor
open Go
theorem comp1 (s : List ByteArray) (hs : s.length ≤ 1000000) : ∀ (ys dn : List ByteArray) (p : ByteArray) (m : Nat),s = dn ++ p :: ys → ys.length < m → Eu s (some s) m ((dn.length + 1 : Nat) : Int) = some (dn ++ p :: nbF p ys)
 | [],dn,p,m,e,h1=>by
  obtain ⟨m,rfl⟩ : ∃ q,m = q + 1:=⟨m - 1,by omega⟩
  have hlen : s.length = dn.length + 1:=by rw [e]; simp
  rw [Eu,if_neg (by simp only [decide_eq_true_eq]; omega)]
  simp [nbF,← e]
 | y :: ys,dn,p,m,e,h1=>by
  obtain ⟨m,rfl⟩ : ∃ q,m = q + 1:=⟨m - 1,by omega⟩
  simp only [List.length_cons] at h1
  have hlen : s.length = dn.length + (ys.length + 1 + 1):=by rw [e]; simp
  have w1 : W (((dn.length + 1 : Nat) : Int) - 1) = (dn.length : Int):=by rw [Jw (by omega) (by omega)]; omega
  have n1 : nth s (dn.length : Int) = p:=Wk (by rw [e]; simp)
  have n2 : nth s ((dn.length + 1 : Nat) : Int) = y:=Wk (by rw [e,List.getElem?_append_right (by omega)]; simp)
  rw [Eu,if_pos (by simp only [decide_eq_true_eq]; omega),w1,Ky (Ge.2 (by omega)),Ky (Ge.2 (by omega)),n1,n2]
  by_cases hy : y = p
  ·rw [if_pos (decide_eq_true hy),Ky (Oa.2 (by omega)),Ma]
   obtain ⟨mid,e1,e2⟩:=Zb (dn.length + 1) s.length _ (Fw s ((dn.length + 1 : Nat) : Int) (fun (x2 : List ByteArray) (x3 : Int)=>Chk (Rz x3 (x2.length : Int) x2.length) (Chk (Rz 0 x3 (clr x2 x3 (x2.length : Int) Co).length) (some (cut (clr x2 x3 (x2.length : Int) Co) (0 : Int) x3)))))
    (fun _ _ _ _=>rfl) (by omega) ys (dn ++ [p]) [] y (((((s.length : Int).toNat - ((dn.length + 1 : Nat) : Int).toNat : Nat) : Int) - 1).toNat + 2) 1 (by simp only [Int.toNat_natCast]; omega) (by simp; omega) (by omega) (by simp)
   have e3 : dn ++ [p] ++ [] ++ y :: ys = s:=by rw [e]; simp
   have e4 : ((dn ++ [p]).length : Int) = ((dn.length + 1 : Nat) : Int):=by simp
   rw [e3,e4] at e1
   refine e1.trans ?_
   obtain ⟨c1,c2,c3⟩:=cut_clr (dn ++ [p] ++ nbF y ys) mid Co
   rw [Ky c1,Ky c2,c3]
   simp [nbF,hy]
  ·rw [if_neg (by simpa using hy)]
   have w2 : W (((dn.length + 1 : Nat) : Int) + 1) = (((dn ++ [p]).length + 1 : Nat) : Int):=by rw [Jw (by omega) (by omega)]; simp
   rw [w2,comp1 s hs ys (dn ++ [p]) y m (by rw [e]; simp) (by omega)]
   simp [nbF,hy]
theorem BC (s : List ByteArray) (hs : s.length ≤ 1000000) : Iu s = some (nb s):=by
 unfold Iu
 cases s with
 | nil=>rfl
 | cons p ys =>
  by_cases h : ((p :: ys).length : Int) < 2
  ·have : ys = []:=List.eq_nil_of_length_eq_zero (by simp at h; omega)
   subst this
   rfl
  ·rw [if_neg (by simpa using h),Ma]
   have:=comp1 (p :: ys) hs ys [] p ((((p :: ys).length : Int) - 1).toNat + 2) rfl (by simp)
   simpa [nb] using this
theorem Zh {α : Type} [DecidableEq α] : ∀ (r : List α) (p x : α),x ∈ nbF p r → x ∈ r
 | [],_,_,h=>by cases h
 | y :: r,p,x,h=>by
  unfold nbF at h
  split at h
  ·exact List.mem_cons_of_mem _ (Zh r y x h)
  ·rcases List.mem_cons.1 h with rfl | h
   ·simp
   ·exact List.mem_cons_of_mem _ (Zh r y x h)
theorem CJ {α : Type} [DecidableEq α] : ∀ (r : List α) (p x : α),x ∈ r → x = p ∨ x ∈ nbF p r
 | [],_,_,h=>by cases h
 | y :: r,p,x,h=>by
  unfold nbF
  rcases List.mem_cons.1 h with rfl | h
  ·split
   ·rename_i e; exact .inl e
   ·exact .inr (by simp)
  ·rcases CJ r y x h with rfl | h2
   ·split
    ·rename_i e; exact .inl e
    ·exact .inr (by simp)
   ·split
    ·exact .inr h2
    ·exact .inr (List.mem_cons_of_mem _ h2)
theorem FA : ∀ (r : List ByteArray) (p : ByteArray),(p :: r).Pairwise leB → (p :: nbF p r).Pairwise fun a b=>cB a b < 0
 | [],p,_=>by simp [nbF]
 | y :: r,p,h=>by
  rw [List.pairwise_cons] at h
  have hy:=h.1 y (by simp)
  have ih:=FA r y h.2
  unfold nbF
  by_cases e : y = p
  ·rw [if_pos e]
   rw [e] at ih ⊢
   exact ih
  ·rw [if_neg e]
   have h1 : cB p y < 0:=by
    rcases hy with h | h
    ·exact h
    ·exact absurd h.symm e
   refine List.pairwise_cons.2 ⟨fun z hz=>?_,ih⟩
   rcases List.mem_cons.1 hz with rfl | hz
   ·exact h1
   ·rw [List.pairwise_cons] at ih
    exact Sm h1 (ih.1 z hz)
theorem cb_le : ∀ (a b : List UInt8),a ≤ b → Lib.compareBytes a b ≤ 0
 | [],[],_=>by simp [Lib.compareBytes]
 | [],_ :: _,_=>by simp [Lib.compareBytes]
 | x :: a,[],h=>by
  exact absurd h (by simp)
 | x :: a,y :: b,h=>by
  rw [Lib.compareBytes]
  rw [List.cons_le_cons_iff] at h
  rcases h with h | ⟨rfl,h⟩
  ·rw [if_pos h]; omega
  ·rw [if_neg (UInt8.lt_irrefl _),if_neg (UInt8.lt_irrefl _)]
   exact cb_le a b h
theorem Uo (l : List ByteArray) : (Jj l).Pairwise leB ∧ ∀ x,x ∈ Jj l ↔ x ∈ l:=by
 unfold Jj
 constructor
 ·rw [List.pairwise_map]
  refine (List.pairwise_mergeSort (le:=fun x y=>decide (x ≤ y)) (fun a b c h1 h2=>by
   rw [decide_eq_true_eq] at *; exact List.le_trans h1 h2) (fun a b=>by
   rcases List.le_total a b with h | h <;> simp [h]) _).imp ?_
  intro a b h
  have:=cb_le a b (of_decide_eq_true h)
  have e : cB (⟨a.toArray⟩ : ByteArray) ⟨b.toArray⟩ = Lib.compareBytes a b:=rfl
  rcases Int.lt_or_eq_of_le this with h1 | h1
  ·exact .inl (by rw [e]; exact h1)
  ·exact .inr (Ul (by rw [e]; exact h1))
 ·intro x
  rw [List.mem_map]
  constructor
  ·rintro ⟨a,ha,rfl⟩
   rw [List.mem_mergeSort,List.mem_map] at ha
   obtain ⟨y,hy,rfl⟩:=ha
   exact hy
  ·intro hx
   exact ⟨x.data.toList,by rw [List.mem_mergeSort]; exact List.mem_map.2 ⟨x,hx,rfl⟩,rfl⟩
def Qi (l : List ByteArray) : List ByteArray:=nb (Jj l)
theorem keys_up (l : List ByteArray) : (Qi l).Pairwise (fun a b=>cB a b < 0):=by
 unfold Qi
 have h:=(Uo l).1
 cases e : Jj l with
 | nil=>exact List.Pairwise.nil
 | cons p r=>rw [e] at h; exact FA r p h
theorem FB (l : List ByteArray) (x : ByteArray) : x ∈ Qi l ↔ x ∈ l:=by
 rw [← (Uo l).2 x]
 unfold Qi
 cases e : Jj l with
 | nil=>exact Iff.rfl
 | cons p r =>
  show x ∈ p :: nbF p r ↔ x ∈ p :: r
  constructor
  ·intro h
   rcases List.mem_cons.1 h with rfl | h
   ·simp
   ·exact List.mem_cons_of_mem _ (Zh r p x h)
  ·intro h
   rcases List.mem_cons.1 h with rfl | h
   ·simp
   ·rcases CJ r p x h with rfl | h
    ·simp
    ·exact List.mem_cons_of_mem _ h
end Go.Proofs.YtocmlionnalaaaaGreatDoor
