/- Points of races: the rows of one race each,and what each row gets: a whole number of sixtieths. Conditions: not more than five rows of one race,a small table. No program stands here but its twins. -/
import Derived.Test.YthlanmcejeohmaaGreatDoorTw
namespace Go.Proofs.YthlanmcejeohmaaGreatDoor
open Go

theorem Hf {R : Type} {c : Bool} {k : Option R} (h : c = true) : Chk c k = k:=by simp [Chk,h]
theorem Hw {κ R : Type} (K : κ) (f : κ → R) : Hc K f = f K:=rfl
theorem Tv {x n : Int} (hn : 0 < n) : -n < Int.tmod x n ∧ Int.tmod x n < n:=by
 have h1:=Int.tmod_lt_of_pos x hn
 have h2:=Int.tmod_lt_of_pos (-x) hn
 rw [Int.neg_tmod] at h2
 omega
theorem Uw (x n : Int) (hn : n ≤ 4611686018427387904) : ∃ v,Jy x n = some v ∧ 0 ≤ v ∧ (v < n ∨ (n < 1 ∧ v = 0)):=by
 unfold Jy
 by_cases h : n < 1
 ·exact ⟨0,by simp [h],Int.le_refl _,.inr ⟨h,rfl⟩⟩
 ·have h1:=Tv (x:=x) (n:=n) (by omega)
  have h0 : ¬ n = 0:=by omega
  simp only [decide_eq_true_eq,h,if_false,Hc]
  rw [Hf (by simp [h0])]
  by_cases h2 : Int.tmod x n < 0
  ·rw [if_pos h2,Kc (by omega) (by omega)]
   exact ⟨_,rfl,by omega,.inl (by omega)⟩
  ·rw [if_neg h2]
   exact ⟨_,rfl,by omega,.inl (by omega)⟩
theorem Sr (L : List Int) (a n : Int) (ha : 0 ≤ a) (ha' : a ≤ 4611686018427387904) (hL : (L.length : Int) ≤ 9223372036854775807) (hn : n ≤ 4611686018427387904) :
  ∃ v,Kw L a n = some (v,a + 1) ∧ 0 ≤ v ∧ (v < n ∨ (n < 1 ∧ v = 0)):=by
 have w1 : W (a + 1) = a + 1:=Kc (by omega) (by omega)
 have w2 : W (a + 1 - 1) = a:=by rw [show a + 1 - 1 = a by omega]; exact Kc (by omega) (by omega)
 unfold Kw
 rw [w1,w2]
 by_cases h : (L.length : Int) = 0
 ·obtain ⟨v,h1,h2,h3⟩:=Uw (W ((a + 1) * 7919)) n hn
  exact ⟨v,by simp [h,h1],h2,h3⟩
 ·have h0 : 0 < (L.length : Int):=by omega
  have hm:=Tv (x:=a) h0
  have hm0 : 0 ≤ Int.tmod a (L.length : Int):=Int.tmod_nonneg _ ha
  have hc : inB (Int.tmod a (L.length : Int)) L.length = true:=Im.2 ⟨hm0,hm.2⟩
  obtain ⟨v1,e1,_,_⟩:=Uw (nth L (Int.tmod a (L.length : Int))) 1073741824 (by omega)
  simp only [decide_eq_true_eq,h,if_false]
  rw [Hf (by simp),Hf (by simp),Hf hc,e1]
  simp only [Option.bind_some]
  obtain ⟨v2,e2,g1,g2⟩:=Uw (W (v1 + W (W (Int.tdiv a (L.length : Int)) * W (7919 + Int.tmod a (L.length : Int))))) n hn
  exact ⟨v2,by rw [e2]; rfl,g1,g2⟩
theorem Zy (L : List Int) (a : Int) (l : List Int) (ha : 0 ≤ a) (ha' : a ≤ 4611686018427387904) (hL : (L.length : Int) ≤ 9223372036854775807) (hl : 0 < l.length) (hl' : l.length ≤ 1000) :
  ∃ v,Jf L a l = some (v,a + 1) ∧ v ∈ l:=by
 obtain ⟨v,h1,h2,h3⟩:=Sr L a (l.length : Int) ha ha' hL (by omega)
 have h4 : v < (l.length : Int):=by omega
 have hc : inB v l.length = true:=Im.2 ⟨h2,h4⟩
 unfold Jf
 rw [h1]
 simp only [Option.bind_some]
 rw [Hf hc]
 exact ⟨nth l v,rfl,List.mem_of_getElem? (Dv hc).1⟩
theorem Zz (L : List Int) (a n : Int) (ha : 0 ≤ a) (ha' : a ≤ 4611686018427387904) (hL : (L.length : Int) ≤ 9223372036854775807) (hn : n ≤ 4611686018427387904) : ∃ b,Kf L a n = some (b,a + 1):=by
 obtain ⟨v,h1,_,_⟩:=Sr L a n ha ha' hL hn
 unfold Kf
 rw [h1]
 exact ⟨_,rfl⟩
end Go.Proofs.YthlanmcejeohmaaGreatDoor
namespace Go.Proofs.YthlanmcejeohmaaGreatDoor
open Go
theorem Ro {n : Int} (h1 : 0 ≤ n) (h2 : n ≤ 18446744073709551615) : IntKind.wrap .u64 n = n:=by
 simp [IntKind.wrap,IntKind.bits,IntKind.signed]; omega
theorem shr32 (x : Int) : Dt .u64 x 32 = x / 4294967296:=by
 have h : (2 : Int) ^ (min (32 : Int).toNat IntKind.u64.bits) = 4294967296:=by decide +kernel
 unfold Dt
 rw [h]
 exact Int.fdiv_eq_ediv_of_nonneg x (by decide)
def pts (b t : Int) : Int:=On ((b * b * b * 1000) / (t * t * t)) 1000000000
end Go.Proofs.YthlanmcejeohmaaGreatDoor
namespace Go.Proofs.YthlanmcejeohmaaGreatDoor
open Go
theorem and_nat {a b : Nat} (ha : a < 18446744073709551616) (hb : b < 18446744073709551616) : Hl .u64 (a : Int) (b : Int) = ((a &&& b : Nat) : Int):=by
 have hx : a &&& b < 2 ^ 64:=Nat.and_lt_two_pow _ (by omega)
 have h1 : (BitVec.ofInt 64 (a : Int)).toNat = a:=by rw [BitVec.ofInt_natCast,BitVec.toNat_ofNat]; exact Nat.mod_eq_of_lt (by omega)
 have h2 : (BitVec.ofInt 64 (b : Int)).toNat = b:=by rw [BitVec.ofInt_natCast,BitVec.toNat_ofNat]; exact Nat.mod_eq_of_lt (by omega)
 show IntKind.wrap .u64 ((BitVec.ofInt 64 (a : Int) &&& BitVec.ofInt 64 (b : Int)).toNat : Int) = _
 rw [BitVec.toNat_and,h1,h2,Ro (by omega) (by omega)]
theorem or_nat {a b : Nat} (ha : a < 18446744073709551616) (hb : b < 18446744073709551616) : Ks .u64 (a : Int) (b : Int) = ((a ||| b : Nat) : Int):=by
 have hx : a ||| b < 2 ^ 64:=Nat.or_lt_two_pow (by omega) (by omega)
 have h1 : (BitVec.ofInt 64 (a : Int)).toNat = a:=by rw [BitVec.ofInt_natCast,BitVec.toNat_ofNat]; exact Nat.mod_eq_of_lt (by omega)
 have h2 : (BitVec.ofInt 64 (b : Int)).toNat = b:=by rw [BitVec.ofInt_natCast,BitVec.toNat_ofNat]; exact Nat.mod_eq_of_lt (by omega)
 show IntKind.wrap .u64 ((BitVec.ofInt 64 (a : Int) ||| BitVec.ofInt 64 (b : Int)).toNat : Int) = _
 rw [BitVec.toNat_or,h1,h2,Ro (by omega) (by omega)]
theorem Qr {a : Nat} (ha : a < 18446744073709551616) : Hl .u64 (a : Int) 4294967295 = ((a % 4294967296 : Nat) : Int):=by
 have h:=and_nat (b:=4294967295) ha (by omega)
 have e : a &&& 4294967295 = a % 4294967296:=Nat.and_two_pow_sub_one_eq_mod a 32
 rw [e] at h
 exact h
theorem Ov {a : Nat} (ha : a < 18446744073709551616) : IntKind.wrap .u64 (a : Int) = (a : Int):=Ro (by omega) (by omega)
theorem U_mod (a : Nat) : IntKind.wrap .u64 (a : Int) = ((a % 18446744073709551616 : Nat) : Int):=by
 simp [IntKind.wrap,IntKind.bits,IntKind.signed]
theorem halves (x1 x0 y1 y0 K : Nat) : (x1 * K + x0) * (y1 * K + y0) = x1 * y1 * (K * K) + (x1 * y0 + x0 * y1) * K + x0 * y0:=by
 rw [Nat.add_mul,Nat.mul_add,Nat.mul_add,Nat.mul_mul_mul_comm,Nat.mul_right_comm x1 K y0,← Nat.mul_assoc x0 y1 K,Nat.add_mul]
 omega
theorem DD {x y : Nat} (hx : x < 18446744073709551616) (hy : y < 18446744073709551616) : Eh (x : Int) (y : Int) = (((x * y / 18446744073709551616 : Nat) : Int),((x * y % 18446744073709551616 : Nat) : Int)):=by
 unfold Eh
 have ex : (x : Int) / 4294967296 = ((x / 4294967296 : Nat) : Int):=by omega
 have ey : (y : Int) / 4294967296 = ((y / 4294967296 : Nat) : Int):=by omega
 simp only [shr32]
 rw [ex,ey,Qr hx,Qr hy]
 refine Prod.ext ?_ (by show IntKind.wrap .u64 ((x : Int) * (y : Int)) = _; rw [← Int.natCast_mul,U_mod])
 have sx : x / 4294967296 * 4294967296 + x % 4294967296 = x:=Nat.div_add_mod' x 4294967296
 have sy : y / 4294967296 * 4294967296 + y % 4294967296 = y:=Nat.div_add_mod' y 4294967296
 have lx1 : x / 4294967296 ≤ 4294967295:=by omega
 have ly1 : y / 4294967296 ≤ 4294967295:=by omega
 have lx0 : x % 4294967296 ≤ 4294967295:=by omega
 have ly0 : y % 4294967296 ≤ 4294967295:=by omega
 generalize x / 4294967296 = x1 at *
 generalize y / 4294967296 = y1 at *
 generalize x % 4294967296 = x0 at *
 generalize y % 4294967296 = y0 at *
 have e : x * y = x1 * y1 * 18446744073709551616 + (x1 * y0 + x0 * y1) * 4294967296 + x0 * y0:=by
  rw [← sx,← sy]
  exact halves x1 x0 y1 y0 4294967296
 have ha:=Nat.mul_le_mul lx1 ly1
 have hb:=Nat.mul_le_mul lx1 ly0
 have hc:=Nat.mul_le_mul lx0 ly1
 have hd:=Nat.mul_le_mul lx0 ly0
 simp only [← Int.natCast_mul]
 rw [e]
 generalize x1 * y1 = a at *
 generalize x1 * y0 = b at *
 generalize x0 * y1 = c at *
 generalize x0 * y0 = d at *
 rw [Ov (a:=d) (by omega),Ov (a:=b) (by omega),Ov (a:=a) (by omega),Ov (a:=c) (by omega)]
 have e1 : IntKind.wrap .u64 ((b : Int) + (d : Int) / 4294967296) = ((b + d / 4294967296 : Nat) : Int):=by rw [show (b : Int) + (d : Int) / 4294967296 = ((b + d / 4294967296 : Nat) : Int) by omega,Ov (by omega)]
 rw [e1,Qr (by omega)]
 rw [Ro (n:=(a : Int) + ((b + d / 4294967296 : Nat) : Int) / 4294967296) (by omega) (by omega),Ro (n:=(((b + d / 4294967296) % 4294967296 : Nat) : Int) + (c : Int)) (by omega) (by omega),Ro (by omega) (by omega)]
 show (a : Int) + ((b + d / 4294967296 : Nat) : Int) / 4294967296 + ((((b + d / 4294967296) % 4294967296 : Nat) : Int) + (c : Int)) / 4294967296 = _
 omega
theorem AA {K q yn1 yn0 r u u1 : Nat} (hq : q * yn1 + r = u) : q * (yn1 * K + yn0) ≤ u * K + u1 ↔ q * yn0 ≤ r * K + u1:=by
 subst hq
 rw [Nat.mul_add,← Nat.mul_assoc,Nat.add_mul]
 omega
theorem Wh {q yn1 r u : Nat} (hq : q * yn1 + r = u) (h : 1 ≤ q) : (q - 1) * yn1 + (r + yn1) = u:=by
 obtain ⟨p,rfl⟩ : ∃ p,q = p + 1:=⟨q - 1,by omega⟩
 rw [Nat.add_mul,Nat.one_mul] at hq
 show p * yn1 + _ = _
 omega
section step
variable {yn1 yn0 u u1 : Nat} (h1 : 2147483648 ≤ yn1) (h2 : yn1 < 4294967296) (h3 : yn0 < 4294967296) (hu : u < yn1 * 4294967296 + yn0) (h4 : u1 < 4294967296)
include h3 hu h4
theorem Ux {q r : Nat} (hq : q * yn1 + r = u) (hr : r < 4294967296) (hb : q ≤ 4294967297) (hQ : (u * 4294967296 + u1) / (yn1 * 4294967296 + yn0) ≤ q) :
  (((decide (4294967296 ≤ (q : Int))) || (decide (IntKind.wrap .u64 (IntKind.wrap .u64 (4294967296 * (r : Int)) + (u1 : Int)) < IntKind.wrap .u64 ((q : Int) * (yn0 : Int))))) = true ∧ 1 ≤ q ∧ (u * 4294967296 + u1) / (yn1 * 4294967296 + yn0) ≤ q - 1 ∧ (4294967296 ≤ r + yn1 → q - 1 = (u * 4294967296 + u1) / (yn1 * 4294967296 + yn0))) ∨
  (((decide (4294967296 ≤ (q : Int))) || (decide (IntKind.wrap .u64 (IntKind.wrap .u64 (4294967296 * (r : Int)) + (u1 : Int)) < IntKind.wrap .u64 ((q : Int) * (yn0 : Int))))) = false ∧ q = (u * 4294967296 + u1) / (yn1 * 4294967296 + yn0)):=by
 have hY : 0 < yn1 * 4294967296 + yn0:=by omega
 have hK : (u * 4294967296 + u1) / (yn1 * 4294967296 + yn0) < 4294967296:=Nat.div_lt_of_lt_mul (by
  have : (u + 1) * 4294967296 ≤ (yn1 * 4294967296 + yn0) * 4294967296:=Nat.mul_le_mul_right _ hu
  omega)
 have hle : ∀ q r : Nat,q * yn1 + r = u → q * yn0 ≤ r * 4294967296 + u1 → q ≤ (u * 4294967296 + u1) / (yn1 * 4294967296 + yn0):=fun q r h h'=>(Nat.le_div_iff_mul_le hY).2 ((AA h).2 h')
 have hlt : ∀ q r : Nat,q * yn1 + r = u → r * 4294967296 + u1 < q * yn0 → (u * 4294967296 + u1) / (yn1 * 4294967296 + yn0) < q:=fun q r h h'=>(Nat.div_lt_iff_lt_mul hY).2 (Nat.lt_of_not_le fun h2=>absurd ((AA h).1 h2) (by omega))
 generalize (u * 4294967296 + u1) / (yn1 * 4294967296 + yn0) = Q at *
 have hw1 : IntKind.wrap .u64 (IntKind.wrap .u64 (4294967296 * (r : Int)) + (u1 : Int)) = ((r * 4294967296 + u1 : Nat) : Int):=by
  rw [Ro (n:=4294967296 * (r : Int)) (by omega) (by omega),Ro (by omega) (by omega)]; omega
 have yes : Q < q → 1 ≤ q ∧ Q ≤ q - 1 ∧ (4294967296 ≤ r + yn1 → q - 1 = Q):=fun g=>by
  refine ⟨by omega,by omega,fun h=>?_⟩
  have hp : (q - 1) * yn0 ≤ 4294967296 * 4294967295:=Nat.mul_le_mul (by omega) (by omega)
  have:=hle (q - 1) (r + yn1) (Wh hq (by omega)) (by omega)
  omega
 rw [hw1]
 by_cases hc : 4294967296 ≤ q
 ·exact .inl ⟨by rw [decide_eq_true (by omega),Bool.true_or],yes (by omega)⟩
 ·have hp : q * yn0 ≤ 4294967295 * 4294967295:=Nat.mul_le_mul (by omega) (by omega)
  rw [← Int.natCast_mul,Ov (by omega),decide_eq_false (p:=(4294967296 : Int) ≤ _) (by omega),Bool.false_or]
  by_cases hd : r * 4294967296 + u1 < q * yn0
  ·exact .inl ⟨decide_eq_true (by omega),yes (hlt q r hq hd)⟩
  ·have:=hle q r hq (by omega)
   exact .inr ⟨decide_eq_false (by omega),by omega⟩
include h1 h2
variable (j : Int → Option (Int × Int)) (F : Nat → Int → Int → Option (Int × Int))
 (hF : ∀ m q r,F (m + 1) q r = if ((decide (4294967296 ≤ q)) || (decide (IntKind.wrap .u64 (IntKind.wrap .u64 (4294967296 * r) + (u1 : Int)) < IntKind.wrap .u64 (q * (yn0 : Int))))) then
  if decide (4294967296 ≤ IntKind.wrap .u64 (r + (yn1 : Int))) then j (IntKind.wrap .u64 (q - 1)) else F m (IntKind.wrap .u64 (q - 1)) (IntKind.wrap .u64 (r + (yn1 : Int))) else j q)
include hF
theorem step_o {q r : Nat} (hq : q * yn1 + r = u) (hr : r < 4294967296) (hb : q ≤ 4294967297) (hQ : (u * 4294967296 + u1) / (yn1 * 4294967296 + yn0) ≤ q) (m : Nat) (hm : 4294967296 ≤ r + yn1) :
  F (m + 1) (q : Int) (r : Int) = j (((u * 4294967296 + u1) / (yn1 * 4294967296 + yn0) : Nat) : Int):=by
 rw [hF]
 rcases Ux h3 hu h4 hq hr hb hQ with ⟨hc,g1,_,g3⟩ | ⟨hc,g⟩
 ·rw [if_pos hc,Ro (n:=(r : Int) + yn1) (by omega) (by omega),if_pos (decide_eq_true (by omega)),Ro (by omega) (by omega),← g3 hm]
  congr 1
  omega
 ·rw [if_neg (by rw [hc]; simp),← g]
theorem step_q {q r : Nat} (hq : q * yn1 + r = u) (hr : r < 4294967296) (hb : q ≤ 4294967297) (hQ : (u * 4294967296 + u1) / (yn1 * 4294967296 + yn0) ≤ q) (m : Nat) :
  F (m + 2) (q : Int) (r : Int) = j (((u * 4294967296 + u1) / (yn1 * 4294967296 + yn0) : Nat) : Int):=by
 rw [hF]
 rcases Ux h3 hu h4 hq hr hb hQ with ⟨hc,g1,g2,g3⟩ | ⟨hc,g⟩
 ·have hw2 : IntKind.wrap .u64 ((r : Int) + (yn1 : Int)) = ((r + yn1 : Nat) : Int):=by rw [Ro (by omega) (by omega)]; omega
  have hw3 : IntKind.wrap .u64 ((q : Int) - 1) = ((q - 1 : Nat) : Int):=by rw [Ro (by omega) (by omega)]; omega
  rw [if_pos hc,hw2,hw3]
  by_cases ho : 4294967296 ≤ r + yn1
  ·rw [if_pos (decide_eq_true (by omega)),g3 ho]
  ·rw [if_neg (by simp only [decide_eq_true_eq]; omega)]
   exact step_o h1 h2 h3 hu h4 j F hF (Wh hq g1) (by omega) (by omega) g2 m (by omega)
 ·rw [if_neg (by rw [hc]; simp),← g]
theorem AB (m : Nat) : F (m + 2) ((u / yn1 : Nat) : Int) ((u % yn1 : Nat) : Int) = j (((u * 4294967296 + u1) / (yn1 * 4294967296 + yn0) : Nat) : Int):=by
 have hd : u / yn1 * yn1 + u % yn1 = u:=Nat.div_add_mod' u yn1
 have hr:=Nat.mod_lt u (show 0 < yn1 by omega)
 refine step_q h1 h2 h3 hu h4 j F hF hd (by omega) ?_ ?_ m
 ·have : u / yn1 < 4294967298:=(Nat.div_lt_iff_lt_mul (by omega)).2 (by omega)
  omega
 ·have hs : u < (u / yn1 + 1) * yn1:=by rw [Nat.add_mul,Nat.one_mul]; omega
  have h5 : (u / yn1 + 1) * (yn1 * 4294967296) ≤ (u / yn1 + 1) * (yn1 * 4294967296 + yn0):=Nat.mul_le_mul_left _ (by omega)
  rw [← Nat.mul_assoc] at h5
  have h6 : (u + 1) * 4294967296 ≤ (u / yn1 + 1) * yn1 * 4294967296:=Nat.mul_le_mul_right _ hs
  have h7 : (u * 4294967296 + u1) / (yn1 * 4294967296 + yn0) < u / yn1 + 1:=(Nat.div_lt_iff_lt_mul (by omega)).2 (by omega)
  omega
end step
end Go.Proofs.YthlanmcejeohmaaGreatDoor
namespace Go.Proofs.YthlanmcejeohmaaGreatDoor
open Go
theorem tab8 : ∀ v : Fin 256,inB (IntKind.wrap .u8 (v.val : Int)) Eb.size = true ∧ (v.val = 0 ∨ ∃ n : Fin 9,1 ≤ n.val ∧ Ma Eb (IntKind.wrap .u8 (v.val : Int)) = (n.val : Int) ∧ 2 ^ (n.val - 1) ≤ v.val ∧ v.val < 2 ^ n.val):=by decide +kernel
theorem BP {y e v n : Nat} (hv : y / 2 ^ e = v) (h1 : 2 ^ (n - 1) ≤ v) (h2 : v < 2 ^ n) (hn : 1 ≤ n) : 2 ^ (n + e - 1) ≤ y ∧ y < 2 ^ (n + e):=by
 subst hv
 have hp : 0 < 2 ^ e:=Nat.two_pow_pos e
 have g1:=(Nat.le_div_iff_mul_le hp).1 h1
 have g2:=(Nat.div_lt_iff_lt_mul hp).1 h2
 rw [← Nat.pow_add] at g1 g2
 rw [show n + e - 1 = n - 1 + e by omega]
 exact ⟨g1,g2⟩
theorem Yc {y e v : Nat} (hv : y / 2 ^ e = v) (h0 : 0 < v) (h1 : v < 256) (he : e ≤ 56) : ∃ n : Nat,Chk (inB (IntKind.wrap .u8 (v : Int)) Eb.size) (some (W ((e : Int) + (W (Ma Eb (IntKind.wrap .u8 (v : Int))))))) = some (n : Int) ∧ 1 ≤ n ∧ n ≤ 64 ∧ 2 ^ (n - 1) ≤ y ∧ y < 2 ^ n:=by
 obtain ⟨c,h⟩:=tab8 ⟨v,h1⟩
 simp only at c h
 rcases h with h | ⟨n,n1,n2,n3,n4⟩
 ·omega
 ·have:=n.isLt
  obtain ⟨g1,g2⟩:=BP hv n3 n4 n1
  refine ⟨n.val + e,?_,by omega,by omega,g1,g2⟩
  rw [Hf c,n2,Kc (n:=(n.val : Int)) (by omega) (by omega),Kc (by omega) (by omega)]
  exact congrArg some (by omega)
theorem Rd {a k : Nat} (hk : k ≤ 64) : Dt .u64 (a : Int) (k : Int) = ((a / 2 ^ k : Nat) : Int):=by
 unfold Dt
 rw [Int.toNat_natCast,show min k IntKind.u64.bits = k from Nat.min_eq_left hk,Int.fdiv_eq_ediv_of_nonneg _ (by exact Int.le_of_lt (Int.pow_pos (by decide)))]
 rw [Int.natCast_ediv,Int.natCast_pow]
 rfl
theorem len64 {y : Nat} (h0 : 0 < y) (h1 : y < 18446744073709551616) : ∃ n : Nat,Ng (y : Int) = some (n : Int) ∧ 1 ≤ n ∧ n ≤ 64 ∧ 2 ^ (n - 1) ≤ y ∧ y < 2 ^ n:=by
 have s32 : Dt .u64 (y : Int) 32 = ((y / 4294967296 : Nat) : Int):=Rd (k:=32) (by omega)
 have s16 : ∀ a : Nat,Dt .u64 (a : Int) 16 = ((a / 65536 : Nat) : Int):=fun a=>Rd (k:=16) (by omega)
 have s8 : ∀ a : Nat,Dt .u64 (a : Int) 8 = ((a / 256 : Nat) : Int):=fun a=>Rd (k:=8) (by omega)
 have last : ∀ (v e : Nat),y / 2 ^ e = v → 0 < v → v < 65536 → e ≤ 48 → ∃ n : Nat,(if decide (256 ≤ (v : Int)) then Chk (inB (IntKind.wrap .u8 (Dt .u64 (v : Int) 8)) Eb.size) (some (W (W ((e : Int) + 8) + W (Ma Eb (IntKind.wrap .u8 (Dt .u64 (v : Int) 8))))))
   else Chk (inB (IntKind.wrap .u8 (v : Int)) Eb.size) (some (W ((e : Int) + W (Ma Eb (IntKind.wrap .u8 (v : Int))))))) = some (n : Int) ∧ 1 ≤ n ∧ n ≤ 64 ∧ 2 ^ (n - 1) ≤ y ∧ y < 2 ^ n:=by
  intro v e hv hp hl he
  by_cases h : 256 ≤ v
  ·have hv2 : y / 2 ^ (e + 8) = v / 256:=by rw [Nat.pow_add,← Nat.div_div_eq_div_mul,hv]
   rw [if_pos (decide_eq_true (by omega)),s8,Kc (n:=(e : Int) + 8) (by omega) (by omega)]
   exact Yc (e:=e + 8) hv2 (by omega) (by omega) (by omega)
  ·rw [if_neg (by simp only [decide_eq_true_eq]; omega)]
   exact Yc hv hp (by omega) (by omega)
 have mid : ∀ (v e : Nat),y / 2 ^ e = v → 0 < v → v < 4294967296 → e ≤ 32 → ∃ n : Nat,(if decide (65536 ≤ (v : Int)) then
   (if decide (256 ≤ Dt .u64 (v : Int) 16) then Chk (inB (IntKind.wrap .u8 (Dt .u64 (Dt .u64 (v : Int) 16) 8)) Eb.size) (some (W (W (W ((e : Int) + 16) + 8) + W (Ma Eb (IntKind.wrap .u8 (Dt .u64 (Dt .u64 (v : Int) 16) 8))))))
   else Chk (inB (IntKind.wrap .u8 (Dt .u64 (v : Int) 16)) Eb.size) (some (W (W ((e : Int) + 16) + W (Ma Eb (IntKind.wrap .u8 (Dt .u64 (v : Int) 16)))))))
   else (if decide (256 ≤ (v : Int)) then Chk (inB (IntKind.wrap .u8 (Dt .u64 (v : Int) 8)) Eb.size) (some (W (W ((e : Int) + 8) + W (Ma Eb (IntKind.wrap .u8 (Dt .u64 (v : Int) 8))))))
   else Chk (inB (IntKind.wrap .u8 (v : Int)) Eb.size) (some (W ((e : Int) + W (Ma Eb (IntKind.wrap .u8 (v : Int)))))))) = some (n : Int) ∧ 1 ≤ n ∧ n ≤ 64 ∧ 2 ^ (n - 1) ≤ y ∧ y < 2 ^ n:=by
  intro v e hv hp hl he
  by_cases h : 65536 ≤ v
  ·have hv2 : y / 2 ^ (e + 16) = v / 65536:=by rw [Nat.pow_add,← Nat.div_div_eq_div_mul,hv]
   rw [if_pos (decide_eq_true (by omega)),s16,Kc (n:=(e : Int) + 16) (by omega) (by omega)]
   exact last _ (e + 16) hv2 (by omega) (by omega) (by omega)
  ·rw [if_neg (by simp only [decide_eq_true_eq]; omega)]
   exact last v e hv hp (by omega) (by omega)
 unfold Ng
 simp only [Hw]
 by_cases h : 4294967296 ≤ y
 ·rw [if_pos (decide_eq_true (by omega)),s32]
  exact mid (y / 4294967296) 32 rfl (by omega) (by omega) (by omega)
 ·rw [if_neg (by simp only [decide_eq_true_eq]; omega)]
  exact mid y 0 (by simp) h0 (by omega) (by omega)
theorem Xj {a s : Nat} (hs : s ≤ 64) : Ds .u64 (a : Int) (s : Int) = ((a * 2 ^ s % 18446744073709551616 : Nat) : Int):=by
 unfold Ds
 rw [Int.toNat_natCast,show min s IntKind.u64.bits = s from Nat.min_eq_left hs,← U_mod,Int.natCast_mul,Int.natCast_pow]
 rfl
theorem wrap3 {a b c : Int} (h1 : 0 ≤ a + b - c) (h2 : a + b - c < 18446744073709551616) : IntKind.wrap .u64 (IntKind.wrap .u64 (IntKind.wrap .u64 a + b) - IntKind.wrap .u64 c) = a + b - c:=by
 have e : ∀ n,IntKind.wrap .u64 n = n % 18446744073709551616:=fun n=>by simp [IntKind.wrap,IntKind.bits,IntKind.signed]
 rw [e,e,e,e]
 omega
theorem DE {K U v Y q : Nat} (h : q = (U * K + v) / Y) (hU : U < Y) (hv : v < K) : q < K:=by
 rw [h]
 refine Nat.div_lt_of_lt_mul ?_
 have h1 : (U + 1) * K ≤ Y * K:=Nat.mul_le_mul_right _ hU
 rw [Nat.add_mul,Nat.one_mul] at h1
 omega
theorem Yd (U V : Nat) : U * 18446744073709551616 + V = U * (4294967296 * 4294967296) + (V / 4294967296 * 4294967296 + V % 4294967296):=by omega
theorem AC {T Y q : Nat} (h : q = T / Y) (hY : 0 < Y) : ∃ R,q * Y + R = T ∧ R < Y:=⟨T % Y,by rw [h]; exact Nat.div_add_mod' _ _,Nat.mod_lt _ hY⟩
theorem BQ {K U v1 v0 Y q1 q0 R t : Nat} (h1 : q1 * Y + R = U * K + v1) (h0 : q0 * Y + t = R * K + v0) (ht : t < Y) : (U * (K * K) + (v1 * K + v0)) / Y = q1 * K + q0:=by
 have e : (q1 * Y + R) * K = (U * K + v1) * K:=by rw [h1]
 rw [Nat.add_mul,Nat.add_mul,Nat.mul_assoc U K K] at e
 have e2 : (q1 * K + q0) * Y = q1 * Y * K + q0 * Y:=by rw [Nat.add_mul,Nat.mul_right_comm]
 have e3 : (q1 * K + q0 + 1) * Y = q1 * Y * K + q0 * Y + Y:=by rw [Nat.add_mul,e2,Nat.one_mul]
 refine Nat.div_eq_of_lt_le ?_ ?_
 ·rw [e2]; omega
 ·show _ < (q1 * K + q0 + 1) * Y
  rw [e3]; omega
theorem div64 {hi lo y : Nat} (h0 : 0 < hi) (h1 : hi < y) (hy : y < 18446744073709551616) (hlo : lo < 18446744073709551616) : ∃ r,Mj (hi : Int) (lo : Int) (y : Int) = some ((((hi * 18446744073709551616 + lo) / y : Nat) : Int),r):=by
 obtain ⟨n,e1,n1,n2,n3,n4⟩:=len64 (y:=y) (by omega) hy
 obtain ⟨s,rfl⟩ : ∃ s,n = 64 - s:=⟨64 - n,by omega⟩
 have hs : s ≤ 63:=by omega
 have hl : Jo (y : Int) = some (s : Int):=by
  unfold Jo
  rw [e1,Option.bind_some,Kc (by omega) (by omega)]
  congr 1
  omega
 have hp : 0 < 2 ^ s:=Nat.two_pow_pos s
 have hS : 2 ^ (64 - s) * 2 ^ s = 18446744073709551616:=by rw [← Nat.pow_add,show 64 - s + s = 64 by omega]
 have hS2 : 2 ^ (64 - s - 1) * 2 ^ s = 9223372036854775808:=by rw [← Nat.pow_add,show 64 - s - 1 + s = 63 by omega]
 have y1 : 9223372036854775808 ≤ y * 2 ^ s:=by rw [← hS2]; exact Nat.mul_le_mul_right _ n3
 have y2 : y * 2 ^ s < 18446744073709551616:=by rw [← hS]; exact Nat.mul_lt_mul_of_pos_right n4 hp
 have k1 : hi * 2 ^ s < 18446744073709551616:=Nat.lt_trans (Nat.mul_lt_mul_of_pos_right h1 hp) y2
 have k2 : lo / 2 ^ (64 - s) < 2 ^ s:=(Nat.div_lt_iff_lt_mul (Nat.two_pow_pos _)).2 (by rw [Nat.mul_comm,hS]; exact hlo)
 have hlow : lo * 2 ^ s = lo / 2 ^ (64 - s) * 18446744073709551616 + lo * 2 ^ s % 18446744073709551616:=by
  have : lo * 2 ^ s / 18446744073709551616 = lo / 2 ^ (64 - s):=by rw [← hS,Nat.mul_div_mul_right _ _ hp]
  rw [← this]
  exact (Nat.div_add_mod' _ _).symm
 have hor : hi * 2 ^ s ||| lo / 2 ^ (64 - s) = hi * 2 ^ s + lo / 2 ^ (64 - s):=by
  have:=Nat.shiftLeft_add_eq_or_of_lt k2 hi
  rw [Nat.shiftLeft_eq] at this
  exact this.symm
 have hall : (hi * 18446744073709551616 + lo) * 2 ^ s = (hi * 2 ^ s + lo / 2 ^ (64 - s)) * 18446744073709551616 + lo * 2 ^ s % 18446744073709551616:=by
  rw [Nat.add_mul,Nat.add_mul,Nat.mul_right_comm hi]
  omega
 have hlt : (hi * 18446744073709551616 + lo) * 2 ^ s < y * 2 ^ s * 18446744073709551616:=by
  rw [Nat.mul_right_comm y]
  refine Nat.mul_lt_mul_of_pos_right ?_ hp
  have : (hi + 1) * 18446744073709551616 ≤ y * 18446744073709551616:=Nat.mul_le_mul_right _ h1
  omega
 have hquo : (hi * 18446744073709551616 + lo) / y = (hi * 18446744073709551616 + lo) * 2 ^ s / (y * 2 ^ s):=(Nat.mul_div_mul_right _ _ hp).symm
 have w0 : IntKind.wrap .u64 (s : Int) = (s : Int):=Ov (by omega)
 have w1 : IntKind.wrap .u64 (64 - (s : Int)) = ((64 - s : Nat) : Int):=by rw [Ro (by omega) (by omega)]; omega
 have w2 : Ds .u64 (y : Int) (s : Int) = ((y * 2 ^ s : Nat) : Int):=by rw [Xj (by omega),Nat.mod_eq_of_lt y2]
 have w3 : Ds .u64 (hi : Int) (s : Int) = ((hi * 2 ^ s : Nat) : Int):=by rw [Xj (by omega),Nat.mod_eq_of_lt k1]
 have w4 : Dt .u64 (lo : Int) ((64 - s : Nat) : Int) = ((lo / 2 ^ (64 - s) : Nat) : Int):=Rd (by omega)
 have w5 : Ds .u64 (lo : Int) (s : Int) = ((lo * 2 ^ s % 18446744073709551616 : Nat) : Int):=Xj (by omega)
 have k3 : 2 ^ s < 18446744073709551616:=Nat.lt_of_le_of_lt (Nat.pow_le_pow_right (by omega) hs) (by decide)
 have w6 : Ks .u64 ((hi * 2 ^ s : Nat) : Int) ((lo / 2 ^ (64 - s) : Nat) : Int) = ((hi * 2 ^ s + lo / 2 ^ (64 - s) : Nat) : Int):=by rw [or_nat k1 (by omega),hor]
 rw [hquo]
 rw [hall] at hlt ⊢
 have lo10 : lo * 2 ^ s % 18446744073709551616 < 18446744073709551616:=Nat.mod_lt _ (by decide)
 generalize hYe : y * 2 ^ s = Y at *
 generalize hi * 2 ^ s + lo / 2 ^ (64 - s) = U at *
 generalize lo * 2 ^ s % 18446744073709551616 = V at *
 have hU : U < Y:=by omega
 have v1 : Dt .u64 (Y : Int) 32 = ((Y / 4294967296 : Nat) : Int):=Rd (k:=32) (by omega)
 have v2 : Hl .u64 (Y : Int) 4294967295 = ((Y % 4294967296 : Nat) : Int):=Qr y2
 have v3 : Dt .u64 (V : Int) 32 = ((V / 4294967296 : Nat) : Int):=Rd (k:=32) (by omega)
 have v4 : Hl .u64 (V : Int) 4294967295 = ((V % 4294967296 : Nat) : Int):=Qr lo10
 have hYY : Y / 4294967296 * 4294967296 + Y % 4294967296 = Y:=Nat.div_add_mod' _ _
 have a1 : 2147483648 ≤ Y / 4294967296:=by omega
 have a2 : Y / 4294967296 < 4294967296:=by omega
 have a3 : Y % 4294967296 < 4294967296:=by omega
 have c1 : ∀ x : Nat,x < Y → IntKind.wrap .u64 (Int.tdiv (x : Int) ((Y / 4294967296 : Nat) : Int)) = ((x / (Y / 4294967296) : Nat) : Int):=fun x hx=>by
  rw [Int.tdiv_eq_ediv_of_nonneg (by omega),← Int.natCast_ediv,Ov (Nat.lt_of_le_of_lt (Nat.div_le_self _ _) (by omega))]
 have c2 : ∀ x : Nat,x < Y → IntKind.wrap .u64 ((x : Int) - IntKind.wrap .u64 (((x / (Y / 4294967296) : Nat) : Int) * ((Y / 4294967296 : Nat) : Int))) = ((x % (Y / 4294967296) : Nat) : Int):=fun x hx=>by
  have hd : x / (Y / 4294967296) * (Y / 4294967296) + x % (Y / 4294967296) = x:=Nat.div_add_mod' _ _
  rw [← Int.natCast_mul]
  generalize x / (Y / 4294967296) * (Y / 4294967296) = z at *
  generalize x % (Y / 4294967296) = t at *
  rw [Ov (a:=z) (by omega),Ro (by omega) (by omega)]
  omega
 unfold Mj
 rw [if_neg (by simp only [decide_eq_true_eq]; omega),if_neg (by simp only [decide_eq_true_eq]; omega),if_neg (by simp only [decide_eq_true_eq]; omega),hl,Option.bind_some]
 simp only [w0,w1,w2,w3,w4,w5,w6,v1,v2,v3,v4]
 rw [Hf (by simp),Hf (by simp),Hf (by simp),Hf (by simp),Hf (by simp only [Bool.not_eq_true',decide_eq_false_iff_not]; omega)]
 simp only [Hw]
 rw [c1 U hU,c2 U hU]
 obtain ⟨q1,hq1,stepU⟩ : ∃ q1 : Nat,q1 = (U * 4294967296 + V / 4294967296) / (Y / 4294967296 * 4294967296 + Y % 4294967296) ∧ ∀ j : Int → Option (Int × Int),Ib (lo : Int) (s : Int) (y : Int) j ((((U / (Y / 4294967296) : Nat) : Int) - 4294967296).toNat + 2) ((U / (Y / 4294967296) : Nat) : Int) ((U % (Y / 4294967296) : Nat) : Int) = j (q1 : Int) :=
  ⟨_,rfl,fun j=>AB (yn1:=Y / 4294967296) (yn0:=Y % 4294967296) (u:=U) (u1:=V / 4294967296) a1 a2 a3 (by omega) (by omega) j (Ib (lo : Int) (s : Int) (y : Int) j) (fun m q r=>by rw [Ib]; simp only [w0,w2,w5,v1,v2,v3]) _⟩
 rw [hYY] at hq1
 obtain ⟨R,hm1,hlt1⟩:=AC hq1 (by omega)
 have hq1b : q1 < 4294967296:=by
  exact DE hq1 hU (by omega)
 have w7 : IntKind.wrap .u64 (IntKind.wrap .u64 (IntKind.wrap .u64 ((U : Int) * 4294967296) + ((V / 4294967296 : Nat) : Int)) - IntKind.wrap .u64 ((q1 : Int) * (Y : Int))) = (R : Int):=by
  rw [← Int.natCast_mul]
  rw [wrap3 (by omega) (by omega)]
  omega
 obtain ⟨q0,hq0,stepR⟩ : ∃ q0 : Nat,q0 = (R * 4294967296 + V % 4294967296) / (Y / 4294967296 * 4294967296 + Y % 4294967296) ∧ ∀ j : Int → Option (Int × Int),Hp (lo : Int) (s : Int) (y : Int) j ((((R / (Y / 4294967296) : Nat) : Int) - 4294967296).toNat + 2) ((R % (Y / 4294967296) : Nat) : Int) ((R / (Y / 4294967296) : Nat) : Int) = j (q0 : Int) :=
  ⟨_,rfl,fun j=>AB (yn1:=Y / 4294967296) (yn0:=Y % 4294967296) (u:=R) (u1:=V % 4294967296) a1 a2 a3 (by omega) (by omega) j (fun m q r=>Hp (lo : Int) (s : Int) (y : Int) j m r q) (fun m q r=>by
  show Hp _ _ _ _ _ _ _ = _
  rw [Hp]; simp only [w0,w2,w5,v1,v2,v4]) _⟩
 rw [hYY] at hq0
 obtain ⟨t,hm0,hlt0⟩:=AC hq0 (by omega)
 have hq0b : q0 < 4294967296:=by
  exact DE hq0 hlt1 (by omega)
 rw [stepU,Hf (by simp only [Bool.not_eq_true',decide_eq_false_iff_not]; omega),w7,c1 R hlt1,c2 R hlt1,stepR,Hf (by simp)]
 have hV : U * 18446744073709551616 + V = U * (4294967296 * 4294967296) + (V / 4294967296 * 4294967296 + V % 4294967296):=Yd U V
 have hfin : (U * 18446744073709551616 + V) / Y = q1 * 4294967296 + q0:=(congrArg (· / Y) hV).trans (BQ hm1 hm0 hlt0)
 refine ⟨_,congrArg some (Prod.ext ?_ rfl)⟩
 show IntKind.wrap .u64 (IntKind.wrap .u64 ((q1 : Int) * 4294967296) + (q0 : Int)) = _
 rw [hfin,Ro (n:=(q1 : Int) * 4294967296) (by omega) (by omega),Ro (by omega) (by omega)]
 omega
end Go.Proofs.YthlanmcejeohmaaGreatDoor
namespace Go.Proofs.YthlanmcejeohmaaGreatDoor
open Go
theorem Ye {t : Nat} (h : t ≤ 360000) : t * t * t ≤ 46656000000000000:=Nat.mul_le_mul (Nat.mul_le_mul h h) h
theorem AD {t : Nat} (h : t ≤ 360000) : IntKind.wrap .u64 (IntKind.wrap .u64 (IntKind.wrap .u64 (t : Int) * IntKind.wrap .u64 (t : Int)) * IntKind.wrap .u64 (t : Int)) = ((t * t * t : Nat) : Int):=by
 have h2 : t * t ≤ 129600000000:=Nat.mul_le_mul h h
 have h3:=Ye h
 rw [Ov (a:=t) (by omega),← Int.natCast_mul,Ov (by omega),← Int.natCast_mul,Ov (by omega)]
theorem Xk {b t : Nat} : pts (b : Int) (t : Int) = On (((b * b * b * 1000 / (t * t * t) : Nat) : Int)) 1000000000:=by
 unfold pts
 simp only [← Int.natCast_mul]
 rw [show (((b * b * b : Nat) : Int) * 1000) = ((b * b * b * 1000 : Nat) : Int) by omega,← Int.natCast_ediv]
theorem byTimeN {b t : Nat} (h1 : 1 ≤ b) (h2 : b ≤ 360000) (h3 : 1 ≤ t) (h4 : t ≤ 360000) : Hq (b : Int) (t : Int) = some (pts (b : Int) (t : Int)):=by
 have hb:=Ye h2
 have ht:=Ye h4
 have ht1 : 1 ≤ t * t * t:=Nat.mul_pos (Nat.mul_pos h3 h3) h3
 unfold Hq
 rw [AD h2,AD h4,Xk]
 generalize b * b * b = x at *
 generalize t * t * t = y at *
 have hm:=DD (x:=x) (y:=1000) (by omega) (by omega)
 rw [show ((1000 : Nat) : Int) = 1000 from rfl] at hm
 rw [hm]
 simp only
 have hX : x * 1000 ≤ 46656000000000000000:=by omega
 generalize x * 1000 = X at *
 by_cases hc : y ≤ X / 18446744073709551616
 ·rw [if_pos (decide_eq_true (by omega))]
  have h5 : 1000000000 ≤ X / y:=(Nat.le_div_iff_mul_le (by omega)).2 (by omega)
  unfold On
  split <;> congr 1 <;> omega
 ·rw [if_neg (by simp only [decide_eq_true_eq]; omega)]
  have hdiv : ∃ r,Mj ((X / 18446744073709551616 : Nat) : Int) ((X % 18446744073709551616 : Nat) : Int) (y : Int) = some (((X / y : Nat) : Int),r):=by
   by_cases h0 : X / 18446744073709551616 = 0
   ·have hXs : X % 18446744073709551616 = X:=Nat.mod_eq_of_lt (by omega)
    have hq : X / y ≤ X:=Nat.div_le_self _ _
    rw [h0,hXs]
    refine ⟨Int.tmod (X : Int) (y : Int),?_⟩
    unfold Mj
    rw [if_neg (by simp only [decide_eq_true_eq]; omega),if_neg (by simp only [decide_eq_true_eq]; omega),if_pos (by simp),Hf (by simp only [Bool.not_eq_true',decide_eq_false_iff_not]; omega),Hf (by simp only [Bool.not_eq_true',decide_eq_false_iff_not]; omega),Int.tdiv_eq_ediv_of_nonneg (by omega),← Int.natCast_ediv,Ov (by omega)]
   ·have hs : X / 18446744073709551616 * 18446744073709551616 + X % 18446744073709551616 = X:=Nat.div_add_mod' _ _
    obtain ⟨r,e⟩:=div64 (hi:=X / 18446744073709551616) (lo:=X % 18446744073709551616) (y:=y) (by omega) (by omega) (by omega) (Nat.mod_lt _ (by decide))
    rw [hs] at e
    exact ⟨r,e⟩
  obtain ⟨r,e⟩:=hdiv
  rw [e,Option.bind_some]
  generalize X / y = q
  unfold On
  split
  ·rw [Kc (by omega) (by omega)]
  ·rename_i hq
   simp only at hq ⊢
   rw [Kc (by omega) (by omega)]
theorem Qa {b t : Int} (h1 : 1 ≤ b) (h2 : b ≤ 360000) (h3 : 1 ≤ t) (h4 : t ≤ 360000) : Hq b t = some (pts b t):=by
 obtain ⟨b,rfl⟩:=Int.eq_ofNat_of_zero_le (show 0 ≤ b by omega)
 obtain ⟨t,rfl⟩:=Int.eq_ofNat_of_zero_le (show 0 ≤ t by omega)
 exact byTimeN (by omega) (by omega) (by omega) (by omega)
theorem AE {b t : Int} (h1 : 1 ≤ b) (h3 : 1 ≤ t) : 0 ≤ pts b t ∧ pts b t ≤ 1000000000:=by
 obtain ⟨b,rfl⟩:=Int.eq_ofNat_of_zero_le (show 0 ≤ b by omega)
 obtain ⟨t,rfl⟩:=Int.eq_ofNat_of_zero_le (show 0 ≤ t by omega)
 rw [Xk]
 generalize b * b * b * 1000 / (t * t * t) = q
 unfold On
 split <;> omega
def Lc (b t n : Nat) : Bool:=decide (t * t * t * n ≤ b * b * b * 1000)
theorem Oe {b t n : Nat} (h2 : b ≤ 360000) (h4 : t ≤ 360000) (hn : n ≤ 1000000000) : Iy (b : Int) (t : Int) (n : Int) = Lc b t n:=by
 have hb:=Ye h2
 have ht:=Ye h4
 unfold Iy Lc
 rw [AD h2,AD h4,Ov (a:=n) (by omega)]
 generalize b * b * b = x at *
 generalize t * t * t = y at *
 have hm:=DD (x:=x) (y:=1000) (by omega) (by omega)
 rw [show ((1000 : Nat) : Int) = 1000 from rfl] at hm
 rw [hm,DD (x:=y) (y:=n) (by omega) (by omega)]
 simp only
 generalize x * 1000 = X
 generalize y * n = Y
 rw [Bool.eq_iff_iff]
 simp only [Bool.or_eq_true,Bool.and_eq_true,decide_eq_true_eq]
 omega
theorem Qb {b t n : Nat} (h3 : 1 ≤ t) (hn : n ≤ 1000000000) : Lc b t n = decide ((n : Int) ≤ pts (b : Int) (t : Int)):=by
 have ht1 : 1 ≤ t * t * t:=Nat.mul_pos (Nat.mul_pos h3 h3) h3
 unfold Lc
 rw [Xk]
 generalize b * b * b * 1000 = X at *
 generalize t * t * t = y at *
 have h:=Nat.le_div_iff_mul_le (x:=n) (y:=X) (k:=y) ht1
 rw [Nat.mul_comm y n]
 generalize n * y = z at *
 generalize X / y = q at *
 rw [Bool.eq_iff_iff]
 simp only [decide_eq_true_eq]
 rw [← h]
 unfold On
 split <;> omega
theorem Ui {R : Type} (P : Int → Bool) (top : Int) (ht : top ≤ 1000000000) (j : Int → R) (F : Nat → Int → Int → R)
  (hF : ∀ m x y,0 ≤ x → x ≤ y → y ≤ top → F (m + 1) x y = if decide (x < y) then if P (W (Int.tdiv (W ((W (x + y)) + 1)) 2)) then F m (W (Int.tdiv (W ((W (x + y)) + 1)) 2)) y else F m x (W ((W (Int.tdiv (W ((W (x + y)) + 1)) 2)) - 1)) else j x) :
  ∀ (m : Nat) (x y : Int),0 ≤ x → x ≤ y → y ≤ top → y - x < (m : Int) → P x = true → (y = top ∨ P (y + 1) = false) → ∃ z,F m x y = j z ∧ x ≤ z ∧ z ≤ top ∧ P z = true ∧ (z = top ∨ P (z + 1) = false)
 | 0,x,y,_,h1,_,h,_,_=>absurd h (by omega)
 | m + 1,x,y,h0,h1,h2,hm,hp,hn=>by
  rw [hF m x y h0 h1 h2]
  by_cases hc : x < y
  ·rw [if_pos (decide_eq_true hc),Kc (n:=x + y) (by omega) (by omega),Kc (n:=x + y + 1) (by omega) (by omega),Int.tdiv_eq_ediv_of_nonneg (by omega),Kc (n:=(x + y + 1) / 2) (by omega) (by omega),Kc (n:=(x + y + 1) / 2 - 1) (by omega) (by omega)]
   cases hq : P ((x + y + 1) / 2) with
   | true =>
    rw [if_pos rfl]
    obtain ⟨z,e,g1,g2⟩:=Ui P top ht j F hF m ((x + y + 1) / 2) y (by omega) (by omega) h2 (by omega) hq hn
    exact ⟨z,e,by omega,g2⟩
   | false =>
    rw [if_neg (by simp)]
    obtain ⟨z,e,g1,g2⟩:=Ui P top ht j F hF m x ((x + y + 1) / 2 - 1) h0 (by omega) (by omega) (by omega) hp (.inr (by rw [show (x + y + 1) / 2 - 1 + 1 = (x + y + 1) / 2 by omega]; exact hq))
    exact ⟨z,e,g1,g2⟩
  ·rw [if_neg (by simpa using hc)]
   have : x = y:=by omega
   subst this
   exact ⟨x,rfl,by omega,h2,hp,hn⟩
theorem Ss {l : List Dw} {race : ByteArray} {b t : Nat} (hb : Eg l race = (b : Int)) (h1 : 1 ≤ b) (h2 : b ≤ 360000) (h3 : 1 ≤ t) (h4 : t ≤ 360000) : Fv l race (t : Int) = some (pts (b : Int) (t : Int)):=by
 unfold Fv
 rw [Hw]
 obtain ⟨z,e,g1,g2,g3,g4⟩:=Ui (fun n=>Iy (b : Int) (t : Int) n) 1000000000 (by omega) (fun x1=>some x1) (Ft l race (t : Int) fun x1=>some x1) (fun m x y _ _ _=>by rw [Ft,hb]; rfl) 1000000002 0 1000000000 (by omega) (by omega) (by omega) (by omega)
  (by
   have:=Oe (b:=b) (t:=t) (n:=0) h2 h4 (by omega)
   rw [show ((0 : Nat) : Int) = 0 from rfl] at this
   simp only [this,Lc,Nat.mul_zero]
   exact decide_eq_true (Nat.zero_le _)) (.inl rfl)
 rw [e]
 obtain ⟨n,rfl⟩:=Int.eq_ofNat_of_zero_le g1
 have hv:=AE (b:=(b : Int)) (t:=(t : Int)) (by omega) (by omega)
 rw [Oe h2 h4 (by omega),Qb h3 (by omega)] at g3
 have g3:=of_decide_eq_true g3
 congr 1
 rcases g4 with g4 | g4
 ·omega
 ·by_cases hn : n = 1000000000
  ·omega
  ·have h5:=Oe (b:=b) (t:=t) (n:=n + 1) h2 h4 (by omega)
   have e2 : ((n : Int) + 1) = ((n + 1 : Nat) : Int):=by omega
   rw [e2,h5,Qb h3 (by omega),decide_eq_false_iff_not] at g4
   omega
theorem BR {l : List Dw} {race : ByteArray} {b n : Nat} (hb : Eg l race = (b : Int)) (h1 : 1 ≤ b) (h2 : b ≤ 360000) (h3 : 1 ≤ n) (h4 : n ≤ 1000000) :
  ∃ z : Nat,Jl l race (n : Int) = some ((z : Int),decide (0 < (z : Int))) ∧ z ≤ 360000 ∧ Lc b z n = true ∧ (z = 360000 ∨ Lc b (z + 1) n = false):=by
 unfold Jl
 rw [Hw]
 obtain ⟨z,e,g1,g2,g3,g4⟩:=Ui (fun t=>Iy (b : Int) t (n : Int)) 360000 (by omega) (fun x1=>some (x1,decide (0 < x1))) (Gq l race (n : Int) fun x1=>some (x1,decide (0 < x1))) (fun m x y _ _ _=>by rw [Gq,hb]; rfl) 360002 0 360000 (by omega) (by omega) (by omega) (by omega)
  (by
   have:=Oe (b:=b) (t:=0) (n:=n) h2 (by omega) (by omega)
   rw [show ((0 : Nat) : Int) = 0 from rfl] at this
   simp only [this,Lc,Nat.zero_mul]
   exact decide_eq_true (Nat.zero_le _)) (.inl rfl)
 obtain ⟨z,rfl⟩:=Int.eq_ofNat_of_zero_le g1
 refine ⟨z,e,by omega,?_,?_⟩
 ·rw [← Oe h2 (by omega) (by omega)]; exact g3
 ·rcases g4 with g4 | g4
  ·exact .inl (by omega)
  ·by_cases hz : z = 360000
   ·exact .inl hz
   ·refine .inr ?_
    rw [← Oe h2 (by omega) (by omega)]
    rw [show ((z : Int) + 1) = ((z + 1 : Nat) : Int) by omega] at g4
    exact g4
theorem Qs {b n s t : Nat} (h : s ≤ t) (ht : Lc b t n = true) : Lc b s n = true:=by
 unfold Lc at *
 have h1 : s * s * s * n ≤ t * t * t * n:=Nat.mul_le_mul_right _ (Nat.mul_le_mul (Nat.mul_le_mul h h) h)
 have h2:=of_decide_eq_true ht
 exact decide_eq_true (by omega)
theorem BS {l : List Dw} {race : ByteArray} {b n : Nat} (hb : Dn l race = (b : Int)) (h1 : 1 ≤ b) (h2 : b ≤ 360000) (h3 : 1 ≤ n) (h4 : n ≤ 1000000) (hp : Lc b 1 n = true) (j : Int → Option (Int × Bool × Int)) :
  ∃ z : Nat,Gn l race (n : Int) j 360001 1 360000 = j (z : Int) ∧ 1 ≤ z ∧ z ≤ 360000 ∧ Lc b z n = true ∧ (z = 360000 ∨ Lc b (z + 1) n = false):=by
 have key : ∀ t : Nat,1 ≤ t → Lc b t n = decide ((n : Int) ≤ pts (b : Int) (t : Int)):=fun t ht=>Qb ht (by omega)
 have main : ∀ (m : Nat) (x y : Int),1 ≤ x → x ≤ y → y ≤ 360000 → y - x < (m : Int) → (n : Int) ≤ pts (b : Int) x → (y = 360000 ∨ pts (b : Int) (y + 1) < (n : Int)) → ∃ z,Gn l race (n : Int) j m x y = j z ∧ 1 ≤ z ∧ z ≤ 360000 ∧ (n : Int) ≤ pts (b : Int) z ∧ (z = 360000 ∨ pts (b : Int) (z + 1) < (n : Int)):=by
  intro m
  induction m with
  | zero=>intro x y _ hxy _ h; exact absurd h (by omega)
  | succ m ih =>
   intro x y hx hxy hy hm hw hn
   rw [Gn]
   by_cases hc : x < y
   ·rw [if_pos (decide_eq_true hc),hb]
    rw [Kc (n:=x + y) (by omega) (by omega),Kc (n:=x + y + 1) (by omega) (by omega),Int.tdiv_eq_ediv_of_nonneg (by omega),Kc (n:=(x + y + 1) / 2) (by omega) (by omega),Kc (n:=(x + y + 1) / 2 - 1) (by omega) (by omega)]
    rw [Qa (b:=(b : Int)) (t:=(x + y + 1) / 2) (by omega) (by omega) (by omega) (by omega)]
    simp only [Option.bind_some,Hw]
    by_cases hp : (n : Int) ≤ pts (b : Int) ((x + y + 1) / 2)
    ·rw [if_pos (decide_eq_true hp)]
     exact ih _ _ (by omega) (by omega) hy (by omega) hp hn
    ·rw [if_neg (by simpa using hp)]
     exact ih _ _ hx (by omega) (by omega) (by omega) hw (.inr (by rw [show (x + y + 1) / 2 - 1 + 1 = (x + y + 1) / 2 by omega]; omega))
   ·rw [if_neg (by simpa using hc)]
    have : x = y:=by omega
    subst this
    exact ⟨x,rfl,hx,hy,hw,hn⟩
 obtain ⟨z,e,g1,g2,g3,g4⟩:=main 360001 1 360000 (by omega) (by omega) (by omega) (by omega) (by have:=key 1 (by omega); rw [hp] at this; exact of_decide_eq_true this.symm) (.inl rfl)
 obtain ⟨z,rfl⟩:=Int.eq_ofNat_of_zero_le (show 0 ≤ z by omega)
 refine ⟨z,e,by omega,by omega,?_,?_⟩
 ·rw [key z (by omega)]; exact decide_eq_true g3
 ·rcases g4 with g4 | g4
  ·exact .inl (by omega)
  ·refine .inr ?_
   rw [key (z + 1) (by omega)]
   rw [show ((z : Int) + 1) = ((z + 1 : Nat) : Int) by omega] at g4
   exact decide_eq_false (by omega)
end Go.Proofs.YthlanmcejeohmaaGreatDoor
namespace Go.Proofs.YthlanmcejeohmaaGreatDoor
open Go
def Dr {α : Type} (a k : Int) (Q : α → Prop) (o : Option (α × Int)) : Prop:=∃ v b,o = some (v,b) ∧ a ≤ b ∧ b ≤ a + k ∧ Q v
abbrev Rs (L : List Int) : Prop:=(L.length : Int) ≤ 9223372036854775807
section
variable {L : List Int} (hL : Rs L) {a : Int} (h0 : 0 ≤ a) (h1 : a ≤ 1000000000000)
include hL h0 h1
theorem St (l : List Int) (hl : 0 < l.length) (hl' : l.length ≤ 1000) : Dr a 1 (fun v=>v ∈ l) (Jf L a l):=by
 obtain ⟨v,e,g⟩:=Zy L a l h0 (by omega) hL hl hl'
 exact ⟨v,a + 1,e,by omega,by omega,g⟩
theorem Xl (n : Int) (hn : n ≤ 4611686018427387904) : Dr a 1 (fun _=>True) (Kf L a n):=by
 obtain ⟨v,e⟩:=Zz L a n h0 (by omega) hL hn
 exact ⟨v,a + 1,e,by omega,by omega,trivial⟩
theorem Re (l : List ByteArray) (hl : 0 < l.length) (hl' : l.length ≤ 1000) : Dr a 1 (fun v=>v ∈ l) (Jt L a l):=by
 obtain ⟨v,e1,h1,h2⟩:=Sr L a (l.length : Int) h0 (by omega) hL (by omega)
 have hc : inB v l.length = true:=Im.2 ⟨h1,by omega⟩
 unfold Jt
 rw [e1]
 simp only [Option.bind_some]
 rw [Hf hc]
 exact ⟨nth l v,a + 1,rfl,by omega,by omega,List.mem_of_getElem? (Dv hc).1⟩
theorem DF (low high : Int) (h2 : -1000000000000 ≤ low) (h3 : low ≤ 1000000000000) (h4 : high ≤ 1000000000000) : Dr a 1 (fun v=>low ≤ v ∧ (v ≤ high ∨ v = low)) (La L a low high):=by
 unfold La
 by_cases h : high < low
 ·exact ⟨low,a,by simp [h],by omega,by omega,by omega,.inr rfl⟩
 ·have w1 : W (high - low) = high - low:=Kc (by omega) (by omega)
  have w2 : W (high - low + 1) = high - low + 1:=Kc (by omega) (by omega)
  obtain ⟨v,e,g1,g2⟩:=Sr L a (high - low + 1) h0 (by omega) hL (by omega)
  rw [if_neg (by simpa using h),w1,w2,e]
  have w3 : W (low + v) = low + v:=Kc (by omega) (by omega)
  exact ⟨_,_,rfl,by show a ≤ a + 1; omega,by show a + 1 ≤ a + 1; omega,by simp only [w3]; omega⟩
theorem DG (low high : Int) (h2 : -1000000000000 ≤ low) (h3 : low ≤ 1000000000000) (h4 : high ≤ 1000000000000) : Dr a 2 (fun _=>True) (Nf L a low high):=by
 obtain ⟨b,e1⟩:=Zz L a 12 h0 (by omega) hL (by omega)
 unfold Nf
 rw [e1]
 simp only [Option.bind_some]
 cases b with
 | true =>
  obtain ⟨v,e,_⟩:=Zy L (a + 1) [W (low - 1),W (high + 1),low,high,(-1099511627776),1099511627776] (by omega) (by omega) hL (by simp) (by simp)
  rw [if_pos rfl,e]
  exact ⟨_,_,rfl,by show a ≤ a + 1 + 1; omega,by show a + 1 + 1 ≤ a + 2; omega,trivial⟩
 | false =>
  unfold La
  by_cases h : high < low
  ·rw [if_neg (by simp),if_pos (by simpa using h)]
   exact ⟨_,_,rfl,by show a ≤ a + 1; omega,by show a + 1 ≤ a + 2; omega,trivial⟩
  ·have w1 : W (high - low) = high - low:=Kc (by omega) (by omega)
   have w2 : W (high - low + 1) = high - low + 1:=Kc (by omega) (by omega)
   obtain ⟨v,e,g1,g2⟩:=Sr L (a + 1) (high - low + 1) (by omega) (by omega) hL (by omega)
   rw [if_neg (by simp),if_neg (by simpa using h),w1,w2,e]
   exact ⟨_,_,rfl,by show a ≤ a + 1 + 1; omega,by show a + 1 + 1 ≤ a + 2; omega,trivial⟩
end
end Go.Proofs.YthlanmcejeohmaaGreatDoor
namespace Go.Proofs.YthlanmcejeohmaaGreatDoor
open Go
def TmS (y : Dm) : Prop:=y.Race ∈ [Kz,Mb,Nd,Rj,Ec] ∧ y.Who ∈ [Ny,Rq,k_A]
theorem AF {L : List Int} (hL : Rs L) (r1 : Int × Int) (hr : r1.1 ≤ 8) : ∀ (m : Nat) (x1 : List Dm) (a x3 : Int),0 ≤ x3 → x3 ≤ 1000 → r1.1 - x3 < (m : Int) → 0 ≤ a → a + 12 * m ≤ 10000000 → (x1.length : Int) = x3 → x3 ≤ 8 → (∀ p ∈ x1,TmS p) →
  ∃ x b,Hd r1 L (fun x a=>some (x,a)) (m + 1) x1 a x3 = some (x,b) ∧ a ≤ b ∧ b ≤ a + 12 * m ∧ x.length ≤ 8 ∧ ∀ p ∈ x,TmS p
 | m,x1,a,x3,h1,h2,h3,h4,h5,h6,h8,h7=>by
  rw [Hd]
  by_cases hc : x3 < r1.1
  ·rw [if_pos (decide_eq_true hc)]
   cases m with
   | zero=>omega
   | succ m =>
    obtain ⟨v1,b1,e1,g1,g2,q1⟩:=Re hL h4 (by omega) [Kz,Mb,Nd,Rj] (by simp) (by simp)
    rw [e1]; simp only [Option.bind_some]
    obtain ⟨v2,b2,e2,g3,g4,q2⟩:=Re hL (a:=b1) (by omega) (by omega) [Ny,Ny,Rq] (by simp) (by simp)
    rw [e2]; simp only [Option.bind_some]
    obtain ⟨v3,b3,e3,gg5,g6,_⟩:=St hL (a:=b2) (by omega) (by omega) [0,1,2000,3000,4567,9000] (by simp) (by simp)
    rw [e3]; simp only [Option.bind_some]
    obtain ⟨f,b4,e4,g7,g8,_⟩:=Xl hL (a:=b3) (by omega) (by omega) 80 (by omega)
    rw [e4]; simp only [Option.bind_some,Hw]
    have hw1 : v1 ∈ [Kz,Mb,Nd,Rj,Ec]:=by
     simp only [List.mem_cons,List.not_mem_nil,or_false] at q1 ⊢
     rcases q1 with h | h | h | h
     ·exact .inl h
     ·exact .inr (.inl h)
     ·exact .inr (.inr (.inl h))
     ·exact .inr (.inr (.inr (.inl h)))
    have hw2 : v2 ∈ [Ny,Rq,k_A]:=by
     simp only [List.mem_cons,List.not_mem_nil,or_false] at q2 ⊢
     rcases q2 with h | h | h
     ·exact .inl h
     ·exact .inl h
     ·exact .inr (.inl h)
    have step : ∀ (s t : ByteArray) (d c : Int),s ∈ [Kz,Mb,Nd,Rj,Ec] → t ∈ [Ny,Rq,k_A] → a ≤ c → c ≤ a + 12 → ∃ x b,(Chk (Rh x1.length) (Hd r1 L (fun x a=>some (x,a)) (m + 1) (x1 ++ [Dm.mk s t d]) c (W (x3 + 1)))) = some (x,b) ∧ a ≤ b ∧ b ≤ a + 12 * ((m + 1 : Nat) : Int) ∧ x.length ≤ 8 ∧ ∀ p ∈ x,TmS p:=by
     intro s t d c hs ht hc1 hc2
     rw [Hf (by unfold Rh; simp; omega),Kc (n:=x3 + 1) (by omega) (by omega)]
     obtain ⟨x,b,r1,r2,r3,r4,r5⟩:=AF hL r1 hr m (x1 ++ [Dm.mk s t d]) c (x3 + 1) (by omega) (by omega) (by omega) (by omega) (by omega) (by simp; omega) (by omega) (fun p hp=>by
      rcases List.mem_append.1 hp with h | h
      ·exact h7 p h
      ·rw [List.mem_singleton] at h; subst h; exact ⟨hs,ht⟩)
     exact ⟨x,b,r1,by omega,by push_cast; omega,r4,r5⟩
    cases f with
    | false=>rw [if_neg (by simp)]; exact step v1 v2 v3 b4 hw1 hw2 (by omega) (by omega)
    | true =>
     rw [if_pos rfl]
     obtain ⟨u1,c1,t1,w1,w2,z1⟩:=Re hL (a:=b4) (by omega) (by omega) [v1,Ec] (by simp) (by simp)
     rw [t1]; simp only [Option.bind_some]
     obtain ⟨u2,c2,t2,w3,w4,z2⟩:=Re hL (a:=c1) (by omega) (by omega) [v2,k_A] (by simp) (by simp)
     rw [t2]; simp only [Option.bind_some]
     obtain ⟨u3,c3,t3,w5,w6,_⟩:=DG hL (a:=c2) (by omega) (by omega) 0 360000 (by omega) (by omega) (by omega)
     rw [t3]; simp only [Option.bind_some]
     refine step u1 u2 u3 c3 ?_ ?_ (by omega) (by omega)
     ·simp only [List.mem_cons,List.not_mem_nil,or_false] at z1
      rcases z1 with rfl | rfl
      ·exact hw1
      ·simp
     ·simp only [List.mem_cons,List.not_mem_nil,or_false] at z2
      rcases z2 with rfl | rfl
      ·exact hw2
      ·simp
  ·rw [if_neg (by simpa using hc)]
   exact ⟨x1,a,rfl,by omega,by omega,by omega,h7⟩
theorem DH {L : List Int} (hL : Rs L) {a : Int} (h0 : 0 ≤ a) (h1 : a ≤ 1000000) : Dr a 200 (fun x=>x.length ≤ 8 ∧ ∀ p ∈ x,TmS p) (Ms L a):=by
 obtain ⟨n,a1,e1,g1,g2,hn⟩:=DF hL (a:=a) h0 (by omega) 0 8 (by omega) (by omega) (by omega)
 unfold Ms
 rw [e1]
 simp only [Option.bind_some,Hw]
 obtain ⟨x,b,e,g3,g4,gg5,g6⟩:=AF hL (n,a1) (by show n ≤ 8; omega) ((n - 0).toNat + 1) [] a1 0 (by omega) (by omega) (by show n - 0 < _; omega) (by omega) (by omega) (by simp) (by omega) (fun _ h=>by cases h)
 exact ⟨x,b,e,by omega,by omega,gg5,g6⟩
theorem Wi {s : ByteArray} (h : s ∈ [Kz,Mb,Nd,Rj,Ec]) : Ix s = some (!decide (s = Ec)):=by
 simp only [List.mem_cons,List.not_mem_nil,or_false] at h
 rcases h with rfl | rfl | rfl | rfl | rfl <;> decide +kernel
theorem Yf {s : ByteArray} (h : s ∈ [Ny,Rq,k_A]) : Ix s = some (!decide (s = k_A)):=by
 simp only [List.mem_cons,List.not_mem_nil,or_false] at h
 rcases h with rfl | rfl | rfl <;> decide +kernel
def Nw : List Dm → Int
 | []=>0
 | y :: l=>if y.Race = Ec ∨ y.Who = k_A then 5 else if y.Time < 0 ∨ 360000 < y.Time then 1 else Nw l
theorem Yg : ∀ (l : List Dm) (i : Nat),(∀ p ∈ l,TmS p) → Ey (some 0) l i = some (Nw l)
 | [],i,_=>by rw [Ey]; rfl
 | y :: l,i,h=>by
  obtain ⟨h1,h2⟩:=h y List.mem_cons_self
  rw [Ey,Wi h1,Option.bind_some,Hw,Yf h2,Nw]
  have ih:=Yg l (i + 1) fun p hp=>h p (List.mem_cons_of_mem _ hp)
  by_cases a1 : y.Race = Ec
  ·simp [a1]
  ·by_cases a2 : y.Who = k_A
   ·simp [a1,a2]
   ·simp only [a1,a2,decide_false,Bool.not_false,Bool.not_true,Bool.false_eq_true,if_false,Option.bind_some,Bool.or_self,or_self,ih]
    unfold Ig
    by_cases a3 : 0 ≤ y.Time ∧ y.Time ≤ 360000
    ·rw [if_neg (by simp; omega),if_neg (by omega)]
    ·rw [if_pos (by simp; omega),if_pos (by omega)]
theorem checkT {l : List Dm} (hl : l.length ≤ 8) (h : ∀ p ∈ l,TmS p) : Iu l = some (Nw l):=by
 unfold Iu
 rw [if_neg (by simp; omega),Hw]
 exact Yg l 0 h
theorem Yh : ∀ {l : List Dm},Nw l = 0 → ∀ y ∈ l,0 ≤ y.Time ∧ y.Time ≤ 360000
 | [],_,_,hy=>by cases hy
 | z :: l,h,y,hy=>by
  rw [Nw] at h
  split at h
  ·cases h
  ·split at h
   ·cases h
   ·rcases List.mem_cons.1 hy with rfl | hy
    ·omega
    ·exact Yh h y hy
end Go.Proofs.YthlanmcejeohmaaGreatDoor
namespace Go.Proofs.YthlanmcejeohmaaGreatDoor
open Go

theorem Xm {l : List UInt8} {c : UInt8} : decide (Lib.indexByte l c < 0) = !l.contains c:=by
 have key : ∀ l : List UInt8,(Lib.indexByte l c = -1 ∧ l.contains c = false) ∨ (0 ≤ Lib.indexByte l c ∧ l.contains c = true):=by
  intro l
  induction l with
  | nil=>exact .inl ⟨rfl,rfl⟩
  | cons b l ih =>
   by_cases hb : b = c
   ·subst hb; exact .inr (by simp [Lib.indexByte])
   ·have hb' : (b == c) = false:=by simpa using hb
    have hc : (c == b) = false:=by simpa using fun h=>hb h.symm
    rcases ih with ⟨h1,h2⟩ | ⟨h1,h2⟩
    ·refine .inl ⟨by simp [Lib.indexByte,hb',h1],?_⟩
     rw [List.contains_cons,hc,h2]; rfl
    ·have h3 : ¬ Lib.indexByte l c = -1:=by omega
     refine .inr ⟨by simp [Lib.indexByte,hb',h3]; omega,?_⟩
     rw [List.contains_cons,hc,h2]; rfl
 rcases key l with ⟨h1,h2⟩ | ⟨h1,h2⟩
 ·rw [h1,h2]; rfl
 ·rw [h2]; simp; omega
theorem BT (u : UInt8) : ((u.toNat : Int)).toNat.toUInt8 = u:=by simp
theorem Po (s : ByteArray) : s.size = s.data.toList.length:=by rw [ByteArray.size,Array.length_toList]
theorem Wj {s : ByteArray} {j : Nat} {u : UInt8} (h : s.data.toList[j]? = some u) : Ma s (j : Int) = (u.toNat : Int):=by
 unfold Ma
 rw [Int.toNat_natCast]
 simp [List.getD,h]
theorem BU (s some_ : ByteArray) : ∀ (k : Nat) (m : Nat),k + m = s.size + 1 → s.size ≤ 4611686018427387904 →
  Gx s some_ (some true) (m + 1) (k : Int) = some ((s.data.toList.drop k).all fun b=>some_.data.toList.contains b):=by
 intro k m
 induction m generalizing k with
 | zero =>
  intro h hs
  have h1 : ¬ (k : Int) < (s.size : Int):=by omega
  rw [Gx]
  rw [if_neg (by simpa using h1),List.drop_of_length_le (by rw [← Po]; omega)]
  rfl
 | succ m ih =>
  intro h hs
  rw [Gx]
  by_cases h1 : (k : Int) < (s.size : Int)
  ·have hk : k < s.data.toList.length:=by rw [← Po]; omega
   have hget : s.data.toList[k]? = some s.data.toList[k]:=List.getElem?_eq_getElem hk
   rw [if_pos (decide_eq_true h1),Hf (Im.2 ⟨by omega,h1⟩),List.drop_eq_getElem_cons hk,List.all_cons]
   have hb : decide (Lm some_ (Ma s (k : Int)) < 0) = !some_.data.toList.contains s.data.toList[k]:=by
    unfold Lm
    rw [Wj hget,BT,Xm]
   rw [hb]
   cases hc : some_.data.toList.contains s.data.toList[k] with
   | false=>simp
   | true =>
    simp only [Bool.not_true,Bool.false_eq_true,if_false,Bool.true_and]
    have hw : W ((k : Int) + 1) = ((k + 1 : Nat) : Int):=by rw [Kc (by omega) (by omega)]; omega
    rw [hw]
    exact ih (k + 1) (by omega) hs
  ·rw [if_neg (by simpa using h1),List.drop_of_length_le (by rw [← Po]; omega)]
   rfl
theorem AG (s some_ : ByteArray) (hs : s.size ≤ 4611686018427387904) : Lh s some_ = some (s.data.toList.all fun b=>some_.data.toList.contains b):=by
 unfold Lh
 rw [Hw]
 have h:=BU s some_ 0 (s.size + 1) (by omega) hs
 have e : ((s.size : Int) - 0).toNat + 2 = s.size + 1 + 1:=by omega
 rw [e]
 exact h
theorem Nn {p : UInt8 → Bool} : ∀ {l : List UInt8},l.dropWhile p = [] ↔ l.all p = true
 | []=>by simp
 | a :: l=>by
  rw [List.dropWhile_cons,List.all_cons]
  cases h : p a with
  | true=>simpa [h] using Nn (p:=p) (l:=l)
  | false=>simp
theorem DI {l cs : List UInt8} : Lib.trimS l cs = [] ↔ l.all (fun b=>cs.contains b) = true:=by
 unfold Lib.trimS Lib.trimLeftS Lib.trimRightS
 rw [Nn,List.all_reverse]
 constructor
 ·intro h
  have h2 : l.reverse.dropWhile (fun x=>cs.contains x) = []:=by
   cases hd : l.reverse.dropWhile (fun x=>cs.contains x) with
   | nil=>rfl
   | cons a r =>
    have h3:=List.head_dropWhile_not (fun x=>cs.contains x) (l:=l.reverse) (by rw [hd]; simp)
    rw [hd] at h
    simp only [hd,List.head_cons] at h3
    rw [List.all_cons,h3] at h
    cases h
  rw [Nn,List.all_reverse] at h2
  exact h2
 ·intro h
  have h2 : l.reverse.dropWhile (fun x=>cs.contains x) = []:=by rw [Nn,List.all_reverse]; exact h
  rw [h2]; rfl
end Go.Proofs.YthlanmcejeohmaaGreatDoor
namespace Go.Proofs.YthlanmcejeohmaaGreatDoor
open Go

theorem BV (u : UInt8) : Gj.data.toList.contains u = (decide (97 ≤ (u.toNat : Int)) && decide ((u.toNat : Int) ≤ 122)):=by
 have key : ∀ n : Fin 256,Gj.data.toList.contains (UInt8.ofNat n.val) = (decide (97 ≤ (((UInt8.ofNat n.val).toNat : Nat) : Int)) && decide ((((UInt8.ofNat n.val).toNat : Nat) : Int) ≤ 122)):=by decide +kernel
 have h:=key ⟨u.toNat,u.toNat_lt⟩
 simpa using h
theorem BW : (Em.data.toList.all fun b=>decide (b.toNat < 128)) = true:=by decide +kernel
theorem BX (l : List UInt8) : ((⟨l.toArray⟩ : ByteArray) = Ec) ↔ l = []:=by
 constructor
 ·intro h
  have h2:=congrArg (fun b : ByteArray=>b.data.toList) h
  simpa [Ec] using h2
 ·rintro rfl; rfl
theorem DJ (s : ByteArray) : ∃ b,Ix s = some b ∧ Js s = some b:=by
 by_cases hs : 1 ≤ s.size ∧ s.size ≤ 40
 ·obtain ⟨h1,h2⟩:=hs
  have hsz:=Po s
  obtain ⟨u,r,hl⟩ : ∃ u r,s.data.toList = u :: r:=by
   cases h : s.data.toList with
   | nil=>rw [h] at hsz; exact absurd hsz (by show ¬ s.size = 0; omega)
   | cons u r=>exact ⟨u,r,rfl⟩
  have hin : Gy (s.size : Int) 1 40 = true:=by unfold Gy; simp; omega
  have hwin : (decide (1 ≤ (s.size : Int)) && decide ((s.size : Int) ≤ 40)) = true:=by simp; omega
  have hb0 : inB 0 s.size = true:=Im.2 ⟨by omega,by omega⟩
  have hc0 : Pr 0 1 s.size = true:=Lp.2 ⟨by omega,by omega,by omega⟩
  have hu : Ma s 0 = (u.toNat : Int):=Wj (j:=0) (by rw [hl]; rfl)
  have hcut : (Xu s 0 1).data.toList = [u]:=by
   unfold Xu
   simp [hl]
  have hcsz : (Xu s 0 1).size ≤ 4611686018427387904:=by rw [Po,hcut]; simp
  have hall:=AG s Em (by omega)
  have hone:=AG (Xu s 0 1) Gj hcsz
  rw [hcut] at hone
  simp only [List.all_cons,List.all_nil,Bool.and_true,BV] at hone
  have htrim : Mt s Em = some ⟨(Lib.trimS s.data.toList Em.data.toList).toArray⟩:=by
   unfold Mt
   rw [Hf (by simp; omega),Hf (by decide +kernel),Hf BW]
  have htr : decide ((⟨(Lib.trimS s.data.toList Em.data.toList).toArray⟩ : ByteArray) = Ec) = s.data.toList.all fun b=>Em.data.toList.contains b:=by
   rw [Bool.eq_iff_iff,decide_eq_true_eq,BX,DI]
  refine ⟨(decide (97 ≤ (u.toNat : Int)) && decide ((u.toNat : Int) ≤ 122)) && s.data.toList.all fun b=>Em.data.toList.contains b,?_,?_⟩
  ·unfold Ix
   simp only [Hw,hwin,if_true,Bool.true_and,Hf hb0,hu]
   by_cases g1 : 97 ≤ (u.toNat : Int)
   ·simp only [g1,decide_true,if_true,Bool.true_and]
    by_cases g2 : (u.toNat : Int) ≤ 122
    ·simp only [g2,decide_true,if_true,Bool.true_and,htrim,Option.bind_some,htr]
    ·simp only [g2,decide_false,Bool.false_eq_true,if_false,Bool.false_and]
   ·simp only [g1,decide_false,Bool.false_eq_true,if_false,Bool.false_and]
  ·unfold Js
   simp only [Hw,hin,if_true,Bool.true_and,Hf hc0,hone,Option.bind_some]
   cases hz : (decide (97 ≤ (u.toNat : Int)) && decide ((u.toNat : Int) ≤ 122)) with
   | true=>simp only [if_true,hall,Option.bind_some,Bool.true_and]
   | false=>simp only [Bool.false_eq_true,if_false,Bool.false_and]
 ·refine ⟨false,?_,?_⟩
  ·have hwin : (decide (1 ≤ (s.size : Int)) && decide ((s.size : Int) ≤ 40)) = false:=by simp; omega
   unfold Ix
   simp only [Hw,hwin,Bool.false_eq_true,if_false,Bool.false_and]
  ·have hin : Gy (s.size : Int) 1 40 = false:=by unfold Gy; simp; omega
   unfold Js
   simp only [Hw,hin,Bool.false_eq_true,if_false,Bool.false_and]
end Go.Proofs.YthlanmcejeohmaaGreatDoor
namespace Go.Proofs.YthlanmcejeohmaaGreatDoor
open Go
end Go.Proofs.YthlanmcejeohmaaGreatDoor
namespace Go.Proofs.YthlanmcejeohmaaGreatDoor
open Go
theorem DK (j : Int) : ∀ (l : List Int) (i k : Nat),Gc j l i = Gc j l k
 | [],_,_=>rfl
 | a :: l,i,k=>by rw [Gc,Gc,DK j l (i + 1) (k + 1)]
theorem Tj (a : Int) (l : List Int) : Dd (a :: l) = if a ≠ 0 then a else Dd l:=by
 unfold Dd
 simp only [Hw,Gc]
 rw [DK 0 l (0 + 1) 0]
 by_cases h : a = 0 <;> simp [h]
theorem Uy : Dd [] = 0:=rfl
end Go.Proofs.YthlanmcejeohmaaGreatDoor
namespace Go.Proofs.YthlanmcejeohmaaGreatDoor
open Go
def Lk : List ByteArray:=[Kz,Mb,Nd,Ec]
theorem AH {L : List Int} (hL : Rs L) : ∀ (ks : List ByteArray) (i : Nat) (x : List Dw) (a : Int),(∀ k ∈ ks,k ∈ Lk) → 0 ≤ a → a + 12 * (ks.length : Int) ≤ 10000000 → x.length + ks.length ≤ 10 → (∀ y ∈ x,y.Race ∈ Lk) →
  ∃ z b,Gt L (fun x a=>some (x,a)) ks i x a = some (z,b) ∧ a ≤ b ∧ b ≤ a + 12 * (ks.length : Int) ∧ z.length ≤ x.length + ks.length ∧ ∀ y ∈ z,y.Race ∈ Lk
 | [],i,x,a,_,_,_,_,h=>⟨x,a,rfl,by omega,by simp,by simp,h⟩
 | k :: ks,i,x,a,hk,h0,h1,h2,h=>by
  simp only [List.length_cons] at h1 h2
  have hkk:=hk k (by simp)
  rw [Gt]
  simp only [Hw]
  obtain ⟨f,b1,e1,g1,g2,_⟩:=Xl hL h0 (by omega) 5 (by omega)
  rw [e1]; simp only [Option.bind_some]
  have go : ∀ (z : List Dw) (c : Int),a ≤ c → c ≤ a + 12 → z.length ≤ x.length + 1 → (∀ y ∈ z,y.Race ∈ Lk) → ∃ q b,Gt L (fun x a=>some (x,a)) ks (i + 1) z c = some (q,b) ∧ a ≤ b ∧ b ≤ a + 12 * ((k :: ks).length : Int) ∧ q.length ≤ x.length + (k :: ks).length ∧ ∀ y ∈ q,y.Race ∈ Lk:=by
   intro z c hc1 hc2 hz hq
   obtain ⟨q,b,e,r1,r2,r3,r4⟩:=AH hL ks (i + 1) z c (fun y hy=>hk y (by simp [hy])) (by omega) (by omega) (by omega) hq
   simp only [List.length_cons]
   exact ⟨q,b,e,by omega,by omega,by omega,r4⟩
  have add : ∀ (r : ByteArray) (t c : Int),r ∈ Lk → a ≤ c → c ≤ a + 12 → ∃ q b,Chk (Rh x.length) (Gt L (fun x a=>some (x,a)) ks (i + 1) (x ++ [Dw.mk r t]) c) = some (q,b) ∧ a ≤ b ∧ b ≤ a + 12 * ((k :: ks).length : Int) ∧ q.length ≤ x.length + (k :: ks).length ∧ ∀ y ∈ q,y.Race ∈ Lk:=by
   intro r t c hr hc1 hc2
   rw [Hf (by unfold Rh; simp; omega)]
   refine go _ c hc1 hc2 (by simp) fun y hy=>?_
   rcases List.mem_append.1 hy with hy | hy
   ·exact h y hy
   ·rw [List.mem_singleton] at hy; subst hy; exact hr
  cases f with
  | true=>rw [if_pos rfl]; exact go x b1 (by omega) (by omega) (by omega) h
  | false =>
   rw [if_neg (by simp)]
   obtain ⟨v2,b2,e2,g3,g4,_⟩:=St hL (a:=b1) (by omega) (by omega) [1,2000,3000,5999,360000] (by simp) (by simp)
   rw [e2]; simp only [Option.bind_some]
   obtain ⟨f3,b3,e3,gg5,g6,_⟩:=Xl hL (a:=b2) (by omega) (by omega) 40 (by omega)
   rw [e3]; simp only [Option.bind_some]
   cases f3 with
   | false=>rw [if_neg (by simp)]; exact add k v2 b3 hkk (by omega) (by omega)
   | true =>
    rw [if_pos rfl]
    obtain ⟨u1,c1,t1,w1,w2,z1⟩:=Re hL (a:=b3) (by omega) (by omega) [k,Ec,Kz] (by simp) (by simp)
    rw [t1]; simp only [Option.bind_some]
    obtain ⟨u2,c2,t2,w3,w4,_⟩:=DG hL (a:=c1) (by omega) (by omega) 1 360000 (by omega) (by omega) (by omega)
    rw [t2]; simp only [Option.bind_some]
    refine add u1 u2 c2 ?_ (by omega) (by omega)
    simp only [List.mem_cons,List.not_mem_nil,or_false] at z1
    rcases z1 with rfl | rfl | rfl
    ·exact hkk
    ·simp [Lk]
    ·simp [Lk]
theorem DL {L : List Int} (hL : Rs L) {a : Int} (h0 : 0 ≤ a) (h1 : a ≤ 100000) : Dr a 40 (fun x=>x.length ≤ 3 ∧ ∀ y ∈ x,y.Race ∈ Lk) (Mr L a):=by
 unfold Mr
 rw [Hw]
 obtain ⟨z,b,e,g1,g2,g3,g4⟩:=AH hL [Kz,Mb,Nd] 0 [] a (fun k hk=>by simp only [List.mem_cons,List.not_mem_nil,or_false] at hk; rcases hk with rfl | rfl | rfl <;> simp [Lk]) h0 (by simp; omega) (by simp) (fun y hy=>by cases hy)
 simp only [List.length_cons,List.length_nil] at g2 g3
 exact ⟨z,b,e,g1,by omega,by omega,g4⟩
theorem BY {s : ByteArray} (h : s ∈ Lk) : Ix s = some (!decide (s = Ec)):=by
 simp only [Lk,List.mem_cons,List.not_mem_nil,or_false] at h
 rcases h with rfl | rfl | rfl | rfl <;> decide +kernel
theorem Xn {s : ByteArray} {b : Bool} (h : Ix s = some b) : Js s = some b:=by
 obtain ⟨c,e1,e2⟩:=DJ s
 rw [h] at e1
 obtain rfl:=Option.some.inj e1
 exact e2
theorem Yi {s : ByteArray} (h : s ∈ Lk) : To s Ec = false:=by
 simp only [Lk,List.mem_cons,List.not_mem_nil,or_false] at h
 rcases h with rfl | rfl | rfl | rfl <;> decide +kernel
theorem DM (l : List Dw) (hl : l.length ≤ 500) (hs : ∀ y ∈ l,y.Race ∈ Lk) : ∀ (ys dn : List Dw) (p : ByteArray),l = dn ++ ys → ((dn = [] ∧ p = Ec) ∨ ∃ d z,dn = d ++ [z] ∧ p = z.Race) →
  ∃ e,Fa l (some 0) ys dn.length = some e ∧ Fq (some 0) ys dn.length p = some e ∧ (e = 0 → ∀ y ∈ ys,1 ≤ y.Time ∧ y.Time ≤ 360000)
 | [],dn,p,_,_=>⟨0,rfl,rfl,fun _ y hy=>by cases hy⟩
 | y :: ys,dn,p,h,hp=>by
  have hy : y.Race ∈ Lk:=hs y (by rw [h]; simp)
  have hlen : l.length = dn.length + (ys.length + 1):=by rw [h]; simp
  obtain ⟨e,e1,e2,e3⟩:=DM l hl hs ys (dn ++ [y]) y.Race (by rw [h]; simp) (.inr ⟨dn,y,rfl,rfl⟩)
  have hln : (dn ++ [y]).length = dn.length + 1:=by simp
  rw [hln] at e1 e2
  have hk:=BY hy
  rw [Fa,Fq,hk,Xn hk]
  simp only [Option.bind_some,Hw]
  by_cases he : y.Race = Ec
  ·exact ⟨5,by simp [he],by simp [he],fun h=>by cases h⟩
  ·simp only [he,decide_false,Bool.not_false,Bool.not_true,Bool.false_eq_true,if_false]
   have ht : Ju y.Time = Gy y.Time 1 360000:=rfl
   have hprev : ∀ (c : Bool),c = (To y.Race p || decide (y.Race = p)) → (if decide (0 < (dn.length : Int)) then Chk (inB (W ((dn.length : Int) - 1)) l.length) (if ((decide (0 < (dn.length : Int))) && (To y.Race ((nth l (W ((dn.length : Int) - 1))).Race) || decide (y.Race = ((nth l (W ((dn.length : Int) - 1))).Race)))) then some 7 else if !(Ju y.Time) then some 1 else Fa l (some 0) ys (dn.length + 1))
     else if ((decide (0 < (dn.length : Int))) && true) then some 7 else if !(Ju y.Time) then some 1 else Fa l (some 0) ys (dn.length + 1)) = if c then some 7 else if !(Gy y.Time 1 360000) then some 1 else Fa l (some 0) ys (dn.length + 1):=by
    intro c hc
    rcases hp with ⟨rfl,rfl⟩ | ⟨d,z,rfl,rfl⟩
    ·rw [Yi hy] at hc
     simp only [he,decide_false,Bool.or_self] at hc
     subst hc
     rw [ht]; rfl
    ·have hpos : (0 : Int) < ((d ++ [z]).length : Int):=by rw [List.length_append,List.length_singleton]; omega
     have hw : W (((d ++ [z]).length : Int) - 1) = (d.length : Int):=by rw [Kc (by omega) (by omega)]; simp
     have hn : nth l (d.length : Int) = z:=by
      have hg : l[d.length]? = some z:=by rw [h]; simp
      simp [nth,List.getD,hg]
     rw [if_pos (decide_eq_true hpos),hw,hn,Hf (Im.2 (by simp at hlen; omega)),decide_eq_true hpos,Bool.true_and,← hc,ht]
   rw [hprev _ rfl,e1]
   cases hc : (To y.Race p || decide (y.Race = p)) with
   | true=>exact ⟨7,by simp,by simp,fun h=>by cases h⟩
   | false =>
    simp only [Bool.false_eq_true,if_false]
    cases hi : Gy y.Time 1 360000 with
    | false=>exact ⟨1,by simp,by simp,fun h=>by cases h⟩
    | true =>
     simp only [Bool.not_true,Bool.false_eq_true,if_false]
     refine ⟨e,rfl,e2,fun h0 z hz=>?_⟩
     rcases List.mem_cons.1 hz with rfl | hz
     ·unfold Gy at hi; simpa using hi
     ·exact e3 h0 z hz
theorem BZ {l : List Dw} (hl : l.length ≤ 3) (hs : ∀ y ∈ l,y.Race ∈ Lk) : ∃ e,Gk l = some e ∧ Ik l = some e ∧ (e = 0 → ∀ y ∈ l,1 ≤ y.Time ∧ y.Time ≤ 360000):=by
 obtain ⟨e,e1,e2,e3⟩:=DM l (by omega) hs l [] Ec rfl (.inl ⟨rfl,rfl⟩)
 refine ⟨e,?_,?_,e3⟩
 ·unfold Gk
  rw [if_neg (by simp; omega),Hw]; exact e1
 ·unfold Ik
  rw [if_neg (by simp; omega),Hw]; exact e2
theorem Nq (race : ByteArray) : ∀ (l : List Dw) (i : Nat),(∀ y ∈ l,1 ≤ y.Time ∧ y.Time ≤ 360000) →
  (∃ b : Nat,1 ≤ b ∧ b ≤ 360000 ∧ Gu race 0 l i = (b : Int) ∧ Ge race 0 l i = (b : Int) ∧ 0 ≤ Dh race (-1) l i) ∨
  (Gu race 0 l i = 0 ∧ Ge race 0 l i = 0 ∧ Dh race (-1) l i = -1)
 | [],i,_=>.inr ⟨rfl,rfl,rfl⟩
 | y :: l,i,h=>by
  rw [Gu,Ge,Dh]
  unfold Ih
  by_cases hr : y.Race = race
  ·simp only [hr,decide_true,if_true]
   have:=h y (by simp)
   exact .inl ⟨y.Time.toNat,by omega,by omega,by omega,by omega,by omega⟩
  ·simp only [hr,decide_false,Bool.false_eq_true,if_false]
   exact Nq race l (i + 1) fun z hz=>h z (by simp [hz])
theorem Yj : ∀ (l : List Dm) (i : Nat),(∀ p ∈ l,TmS p) → Ez (some 0) l i = some (Nw l)
 | [],i,_=>by rw [Ez]; rfl
 | y :: l,i,h=>by
  obtain ⟨h1,h2⟩:=h y List.mem_cons_self
  rw [Ez,Xn (Wi h1),Option.bind_some,Hw,Xn (Yf h2),Nw]
  have ih:=Yj l (i + 1) fun p hp=>h p (List.mem_cons_of_mem _ hp)
  by_cases a1 : y.Race = Ec
  ·simp [a1]
  ·by_cases a2 : y.Who = k_A
   ·simp [a1,a2]
   ·simp only [a1,a2,decide_false,Bool.not_false,Bool.not_true,Bool.false_eq_true,if_false,Option.bind_some,Bool.or_self,or_self,ih]
    unfold Gy
    by_cases a3 : 0 ≤ y.Time ∧ y.Time ≤ 360000
    ·rw [if_neg (by simp; omega),if_neg (by omega)]
    ·rw [if_pos (by simp; omega),if_pos (by omega)]
theorem timesF {l : List Dm} (hl : l.length ≤ 8) (h : ∀ p ∈ l,TmS p) : Jp l = some (Nw l):=by
 unfold Jp
 rw [if_neg (by simp; omega),Hw]
 exact Yj l 0 h
end Go.Proofs.YthlanmcejeohmaaGreatDoor
namespace Go.Proofs.YthlanmcejeohmaaGreatDoor
open Go
def fr (v : Nat) : Di:=⟨((v / Nat.gcd v 60 : Nat) : Int),((60 / Nat.gcd v 60 : Nat) : Int)⟩
end Go.Proofs.YthlanmcejeohmaaGreatDoor
namespace Go.Proofs.YthlanmcejeohmaaGreatDoor
open Go
theorem Qg {κ R : Type} (K : κ) (f : κ → R) : Hc K f = f K:=rfl
theorem Ok {R : Type} {c : Bool} {k : Option R} (h : c = true) : Chk c k = k:=by subst h; rfl
section
variable {α R : Type}
variable [Inhabited α]
theorem Xo (a : List α) (y : α) (b : List α) {e : Int} (he : e = (a.length : Int)) : nth (a ++ y :: b) e = y:=by
 subst he
 simp [nth]
omit [Inhabited α] in
theorem cut_clr (a b : List α) (z : α) : Pr (a.length : Int) ((a ++ b).length : Int) (a ++ b).length = true ∧ Pr 0 (a.length : Int) (clr (a ++ b) (a.length : Int) ((a ++ b).length : Int) z).length = true ∧ cut (clr (a ++ b) (a.length : Int) ((a ++ b).length : Int) z) 0 (a.length : Int) = a:=by
 refine ⟨Lp.2 (by simp; omega),Lp.2 ⟨by omega,by omega,by simp [clr]; omega⟩,?_⟩
 simp [cut,clr]
def Md (lt : α → α → Bool) (x : α) : List α → List α
 | []=>[x]
 | y :: r=>if lt x y then y :: Md lt x r else x :: y :: r
def Nr (lt : α → α → Bool) (l rp : List α) : List α:=l.foldl (fun rp x=>Md lt x rp) rp
def Kg (lt : α → α → Bool) (l : List α) : List α:=(Nr lt l []).reverse
omit [Inhabited α] in
theorem Qt (lt : α → α → Bool) (x : α) : ∀ l : List α,(Md lt x l).length = l.length + 1
 | []=>rfl
 | y :: r=>by
  unfold Md
  split
  ·simp [Qt lt x r]
  ·rfl
omit [Inhabited α] in
theorem Pp (lt : α → α → Bool) (x z : α) : ∀ l : List α,z ∈ Md lt x l ↔ z = x ∨ z ∈ l
 | []=>by simp [Md]
 | y :: r=>by
  unfold Md
  split
  ·simp only [List.mem_cons,Pp lt x z r]
   constructor
   ·rintro (h | h | h)
    ·exact .inr (.inl h)
    ·exact .inl h
    ·exact .inr (.inr h)
   ·rintro (h | h | h)
    ·exact .inr (.inl h)
    ·exact .inl h
    ·exact .inr (.inr h)
  ·simp
theorem AI (C : α → α → (Bool → Option R) → Option R) (lt : α → α → Bool) (j : List α → Option R) (F : Nat → List α → Int → Option R)
  (h : ∀ m x i,F (m + 1) x i = if decide (0 < i) then Chk (inB i x.length) (Chk (inB (W (i - 1)) x.length) (C (nth x i) (nth x (W (i - 1))) (fun b=>if b then
   Chk (inB (W (i - 1)) x.length) (Chk (inB i x.length) (Chk (inB i x.length) (Chk (inB (W (i - 1)) (x.set i.toNat (nth x (W (i - 1)))).length) (F m ((x.set i.toNat (nth x (W (i - 1)))).set (W (i - 1)).toNat (nth x i)) (W (i - 1)))))) else j x))) else j x) :
  ∀ (rp : List α) (x : α) (post : List α) (m : Nat),rp.length < m → rp.length + post.length < 1073741824 → (∀ y ∈ rp,∀ k,C x y k = k (lt x y)) →
   F m (rp.reverse ++ x :: post) (rp.length : Int) = j ((Md lt x rp).reverse ++ post)
 | [],x,post,m,h1,h2,_=>by
  obtain ⟨m,rfl⟩ : ∃ q,m = q + 1:=⟨m - 1,by omega⟩
  rw [h,if_neg (by simp)]
  rfl
 | y :: r,x,post,m,h1,h2,hC=>by
  obtain ⟨m,rfl⟩ : ∃ q,m = q + 1:=⟨m - 1,by omega⟩
  simp only [List.length_cons] at h1 h2
  have e0 : (y :: r).reverse ++ x :: post = r.reverse ++ y :: x :: post:=by simp
  have e0' : r.reverse ++ y :: x :: post = (r.reverse ++ [y]) ++ x :: post:=by simp
  have wi : W ((((y :: r).length : Nat) : Int) - 1) = (r.length : Int):=by rw [Kc (by simp only [List.length_cons]; omega) (by simp only [List.length_cons]; omega)]; simp
  have n1 : nth (r.reverse ++ y :: x :: post) (((y :: r).length : Nat) : Int) = x:=by rw [e0']; exact Xo _ _ _ (by simp)
  have n2 : nth (r.reverse ++ y :: x :: post) (r.length : Int) = y:=Xo _ _ _ (by simp)
  have b1 : inB (((y :: r).length : Nat) : Int) (r.reverse ++ y :: x :: post).length = true:=Im.2 ⟨by omega,by simp; omega⟩
  have b2 : inB (r.length : Int) (r.reverse ++ y :: x :: post).length = true:=Im.2 (by simp; omega)
  rw [h,e0,if_pos (decide_eq_true (by simp only [List.length_cons]; omega)),wi,Ok b1,Ok b2,n1,n2,hC y List.mem_cons_self]
  unfold Md
  cases hb : lt x y with
  | true =>
   simp only [if_true]
   rw [Ok b2,Ok b1,Ok b1,Ok (by rw [List.length_set]; exact b2)]
   have e1 : ((r.reverse ++ y :: x :: post).set (((y :: r).length : Nat) : Int).toNat y).set (r.length : Int).toNat x = r.reverse ++ x :: (y :: post):=by
    have e2 : (r.reverse ++ y :: x :: post).set (((y :: r).length : Nat) : Int).toNat y = r.reverse ++ y :: y :: post:=by
     rw [e0',show (((y :: r).length : Nat) : Int).toNat = (r.reverse ++ [y]).length by simp,List.set_append_right _ _ (Nat.le_refl _)]
     simp
    rw [e2,show (r.length : Int).toNat = r.reverse.length by simp,List.set_append_right _ _ (Nat.le_refl _)]
    simp
   rw [e1,AI C lt j F h r x (y :: post) m (by omega) (by simp; omega) (fun z hz=>hC z (List.mem_cons_of_mem _ hz))]
   simp
  | false=>simp
omit [Inhabited α] in
theorem Uj (lt : α → α → Bool) (j : List α → Option R) (G : (List α → Option R) → List α → Int → Option R) (F : Nat → List α → Int → Option R) (n : Int)
  (h : ∀ m x i,F (m + 1) x i = if decide (i < n) then G (fun x=>F m x (W (i + 1))) x i else j x)
  (hG : ∀ k (rp : List α) (x : α) (post : List α),((rp ++ x :: post).length : Int) = n → (∀ y,y ∈ rp ∨ y = x ∨ y ∈ post → y ∈ (rp ++ x :: post)) → G k (rp.reverse ++ x :: post) (rp.length : Int) = k ((Md lt x rp).reverse ++ post)) :
  ∀ (rest rp : List α) (m : Nat),rest.length < m → ((rp.length + rest.length : Nat) : Int) = n → rp.length + rest.length < 1073741824 →
   F m (rp.reverse ++ rest) (rp.length : Int) = j (Nr lt rest rp).reverse
 | [],rp,m,h1,h2,_=>by
  obtain ⟨m,rfl⟩ : ∃ q,m = q + 1:=⟨m - 1,by omega⟩
  rw [h,if_neg (by simp at h2; simp; omega)]
  simp [Nr]
 | x :: r,rp,m,h1,h2,h3=>by
  obtain ⟨m,rfl⟩ : ∃ q,m = q + 1:=⟨m - 1,by omega⟩
  simp only [List.length_cons] at h1 h2 h3
  rw [h,if_pos (by simp; omega),hG _ rp x r (by simp; omega) (fun y hy=>by simpa using hy),show W ((rp.length : Int) + 1) = ((Md lt x rp).length : Int) by rw [Kc (by omega) (by omega),Qt]; rfl,
   Uj lt j G F n h hG r (Md lt x rp) m (by omega) (by rw [Qt]; omega) (by rw [Qt]; omega)]
  rfl
omit [Inhabited α] in
theorem Wk (lt : α → α → Bool) (z : α) : ∀ l rp : List α,z ∈ Nr lt l rp ↔ z ∈ l ∨ z ∈ rp
 | [],rp=>by simp [Nr]
 | x :: l,rp=>by
  show z ∈ Nr lt l (Md lt x rp) ↔ _
  rw [Wk lt z l,Pp]
  simp only [List.mem_cons]
  constructor
  ·rintro (h | h | h)
   ·exact .inl (.inr h)
   ·exact .inl (.inl h)
   ·exact .inr h
  ·rintro ((h | h) | h)
   ·exact .inr (.inl h)
   ·exact .inl h
   ·exact .inr (.inr h)
omit [Inhabited α] in
end
end Go.Proofs.YthlanmcejeohmaaGreatDoor
namespace Go.Proofs.YthlanmcejeohmaaGreatDoor
open Go
section
variable {α β R : Type}
variable [DecidableEq α] [Inhabited α]
theorem eq_l (l : List α) (F : List α → Nat → Option Bool) (h0 : ∀ i,F [] i = some true) (h1 : ∀ y ys i,F (y :: ys) i = Chk (inB (i : Int) l.length) (if !decide (y = nth l (i : Int)) then some false else F ys (i + 1))) : ∀ (ys dn : List α),l = dn ++ ys → F ys dn.length = some true
 | [],dn,_=>h0 _
 | y :: ys,dn,h=>by
  have hlen : l.length = dn.length + (ys.length + 1):=by rw [h]; simp
  have hn : nth l (dn.length : Int) = y:=by rw [h]; exact Xo _ _ _ rfl
  have ih:=eq_l l F h0 h1 ys (dn ++ [y]) (by rw [h]; simp)
  rw [List.length_append] at ih
  rw [h1,Ok (Im.2 (by omega)),hn]
  simpa using ih
end
section
variable {α R : Type} [Inhabited α]
end
end Go.Proofs.YthlanmcejeohmaaGreatDoor
namespace Go.Proofs.YthlanmcejeohmaaGreatDoor
open Go
end Go.Proofs.YthlanmcejeohmaaGreatDoor
