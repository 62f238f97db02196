/- The Go functions as plain Lean functions,by program. -/
import Derived.Test.YthlanmcejeohmaaGreatDoorBase
namespace Go.Proofs.YthlanmcejeohmaaGreatDoor
open Go
noncomputable section
structure BN where
  L : List Int
  at_ : Int
  deriving DecidableEq,Inhabited
structure Dw where
  Race : ByteArray
  Time : Int
  deriving DecidableEq,Inhabited
structure Dm where
  Race : ByteArray
  Who : ByteArray
  Time : Int
  deriving DecidableEq,Inhabited
structure Di where
  Num : Int
  Den : Int
  deriving DecidableEq,Inhabited
structure De where
  Key : ByteArray
  Points : Di
  deriving DecidableEq,Inhabited
structure Df where
  race_ : ByteArray
  who_ : ByteArray
  deriving DecidableEq,Inhabited
def Ec : ByteArray:=⟨#[]⟩
def Kz : ByteArray:=⟨#[114,97]⟩
def Mb : ByteArray:=⟨#[114,98]⟩
def Nd : ByteArray:=⟨#[114,99]⟩
def Rj : ByteArray:=⟨#[114,122]⟩
def Ny : ByteArray:=⟨#[97,110,110]⟩
def Rq : ByteArray:=⟨#[98,101,97]⟩
def k_A : ByteArray:=⟨#[65]⟩
def Em : ByteArray:=⟨#[97,98,99,100,101,102,103,104,105,106,107,108,109,110,111,112,113,114,115,116,117,118,119,120,121,122,48,49,50,51,52,53,54,55,56,57,45,95]⟩
def Eb : ByteArray:=⟨#[0,1,2,2,3,3,3,3,4,4,4,4,4,4,4,4,5,5,5,5,5,5,5,5,5,5,5,5,5,5,5,5,6,6,6,6,6,6,6,6,6,6,6,6,6,6,6,6,6,6,6,6,6,6,6,6,6,6,6,6,6,6,6,6,7,7,7,7,7,7,7,7,7,7,7,7,7,7,7,7,7,7,7,7,7,7,7,7,7,7,7,7,7,7,7,7,7,7,7,7,7,7,7,7,7,7,7,7,7,7,7,7,7,7,7,7,7,7,7,7,7,7,7,7,7,7,7,7,8,8,8,8,8,8,8,8,8,8,8,8,8,8,8,8,8,8,8,8,8,8,8,8,8,8,8,8,8,8,8,8,8,8,8,8,8,8,8,8,8,8,8,8,8,8,8,8,8,8,8,8,8,8,8,8,8,8,8,8,8,8,8,8,8,8,8,8,8,8,8,8,8,8,8,8,8,8,8,8,8,8,8,8,8,8,8,8,8,8,8,8,8,8,8,8,8,8,8,8,8,8,8,8,8,8,8,8,8,8,8,8,8,8,8,8,8,8,8,8,8,8,8,8,8,8,8,8]⟩
def Gj : ByteArray:=⟨#[97,98,99,100,101,102,103,104,105,106,107,108,109,110,111,112,113,114,115,116,117,118,119,120,121,122]⟩
def k_r : ByteArray:=⟨#[114]⟩
def Jy (p_x : Int) (p_n : Int) : Option Int :=
  if decide (p_n < 1) then
  some 0
  else
  Chk (!decide (p_n = 0)) (
  Hc (fun (x1 : Int) =>
  some x1) (fun j1 =>
  if decide ((Int.tmod p_x p_n) < 0) then
  j1 (W ((Int.tmod p_x p_n) + p_n))
  else
  j1 (Int.tmod p_x p_n)))
def Kw (p_s_L : List Int) (p_s_at : Int) (p_n : Int) : Option (Int × Int) :=
  if decide ((p_s_L.length : Int) = 0) then
  Option.bind (Jy (W ((W (p_s_at + 1)) * 7919)) p_n) (fun r1 =>
  some (r1,W (p_s_at + 1)))
  else
  Chk (!decide ((p_s_L.length : Int) = 0)) (
  Chk (!decide ((p_s_L.length : Int) = 0)) (
  Chk (inB (Int.tmod (W ((W (p_s_at + 1)) - 1)) (p_s_L.length : Int)) p_s_L.length) (
  Option.bind (Jy (nth p_s_L (Int.tmod (W ((W (p_s_at + 1)) - 1)) (p_s_L.length : Int))) 1073741824) (fun r2 =>
  Option.bind (Jy (W (r2 + (W ((W (Int.tdiv (W ((W (p_s_at + 1)) - 1)) (p_s_L.length : Int))) * (W (7919 + (Int.tmod (W ((W (p_s_at + 1)) - 1)) (p_s_L.length : Int)))))))) p_n) (fun r3 =>
  some (r3,W (p_s_at + 1)))))))
def Kf (p_s_L : List Int) (p_s_at : Int) (p_n : Int) : Option (Bool × Int) :=
  Option.bind (Kw p_s_L p_s_at p_n) (fun r1 =>
  some (decide (r1.1 = 0),r1.2))
def Jf (p_s_L : List Int) (p_s_at : Int) (p_l : List Int) : Option (Int × Int) :=
  Option.bind (Kw p_s_L p_s_at (p_l.length : Int)) (fun r1 =>
  Chk (inB r1.1 p_l.length) (
  some ((nth p_l r1.1),r1.2)))
def Jt (p_s_L : List Int) (p_s_at : Int) (p_l : List ByteArray) : Option (ByteArray × Int) :=
  Option.bind (Kw p_s_L p_s_at (p_l.length : Int)) (fun r1 =>
  Chk (inB r1.1 p_l.length) (
  some ((nth p_l r1.1),r1.2)))
def La (p_s_L : List Int) (p_s_at : Int) (p_low : Int) (p_high : Int) : Option (Int × Int) :=
  if decide (p_high < p_low) then
  some (p_low,p_s_at)
  else
  Option.bind (Kw p_s_L p_s_at (W ((W (p_high - p_low)) + 1))) (fun r1 =>
  some (W (p_low + r1.1),r1.2))
def Nf (p_s_L : List Int) (p_s_at : Int) (p_low : Int) (p_high : Int) : Option (Int × Int) :=
  Option.bind (Kf p_s_L p_s_at 12) (fun r1 =>
  if r1.1 then
  Option.bind (Jf p_s_L r1.2 [W (p_low - 1),W (p_high + 1),p_low,p_high,(-1099511627776),1099511627776]) (fun r2 =>
  some (r2.1,r2.2))
  else
  Option.bind (La p_s_L r1.2 p_low p_high) (fun r3 =>
  some (r3.1,r3.2)))
def Gt (p_s_L : List Int) (j1 : (List Dw) → Int → Option ((List Dw) × Int)) : List ByteArray → Nat → (List Dw) → Int → Option ((List Dw) × Int)
  | [],_,x1,x2=>j1 x1 x2
  | y1 :: ys1,i1,x1,x2=>Hc (fun (x3 : List Dw) (x4 : Int) =>
  Gt p_s_L j1 ys1 (i1 + 1) x3 x4) (fun j2 =>
  Option.bind (Kf p_s_L x2 5) (fun r1 =>
  if r1.1 then
  j2 x1 r1.2
  else
  Option.bind (Jf p_s_L r1.2 [1,2000,3000,5999,360000]) (fun r2 =>
  Option.bind (Kf p_s_L r2.2 40) (fun r3 =>
  Hc (fun (x5 : ByteArray) (x6 : Int) (x7 : Int) =>
  Chk (Rh x1.length) (
  j2 (x1 ++ [(Dw.mk x5 x6)]) x7)) (fun j3 =>
  if r3.1 then
  Option.bind (Jt p_s_L r3.2 [y1,Ec,Kz]) (fun r4 =>
  Option.bind (Nf p_s_L r4.2 1 360000) (fun r5 =>
  j3 r4.1 r5.1 r5.2))
  else
  j3 y1 r2.1 r3.2)))))
def Mr (p_s_L : List Int) (p_s_at : Int) : Option ((List Dw) × Int) :=
  Hc (fun (x1 : List Dw) (x2 : Int) =>
  some (x1,x2)) (fun j1 =>
  Gt p_s_L j1 ([Kz,Mb,Nd] : List ByteArray) 0 ([] : List Dw) p_s_at)
def Hd (r1 : Int × Int) (p_s_L : List Int) (j1 : (List Dm) → Int → Option ((List Dm) × Int)) : Nat → (List Dm) → Int → Int → Option ((List Dm) × Int)
  | 0,_,_,_=>none
  | m1 + 1,x1,x2,x3=>if decide (x3 < r1.1) then
  Option.bind (Jt p_s_L x2 [Kz,Mb,Nd,Rj]) (fun r2 =>
  Option.bind (Jt p_s_L r2.2 [Ny,Ny,Rq]) (fun r3 =>
  Option.bind (Jf p_s_L r3.2 [0,1,2000,3000,4567,9000]) (fun r4 =>
  Option.bind (Kf p_s_L r4.2 80) (fun r5 =>
  Hc (fun (x4 : ByteArray) (x5 : ByteArray) (x6 : Int) (x7 : Int) =>
  Chk (Rh x1.length) (
  Hd r1 p_s_L j1 m1 (x1 ++ [(Dm.mk x4 x5 x6)]) x7 (W (x3 + 1)))) (fun j2 =>
  if r5.1 then
  Hc (fun (x8 : ByteArray) (x9 : ByteArray) (x10 : Int) (x11 : Int) =>
  j2 x8 x9 x10 x11) (fun j3 =>
  Option.bind (Jt p_s_L r5.2 [r2.1,Ec]) (fun r6 =>
  Option.bind (Jt p_s_L r6.2 [r3.1,k_A]) (fun r7 =>
  Option.bind (Nf p_s_L r7.2 0 360000) (fun r8 =>
  j3 r6.1 r7.1 r8.1 r8.2))))
  else
  j2 r2.1 r3.1 r4.1 r5.2)))))
  else
  j1 x1 x2
def Ms (p_s_L : List Int) (p_s_at : Int) : Option ((List Dm) × Int) :=
  Option.bind (La p_s_L p_s_at 0 8) (fun r1 =>
  Hc (fun (x1 : List Dm) (x2 : Int) =>
  some (x1,x2)) (fun j1 =>
  Hd r1 p_s_L j1 ((r1.1 - 0).toNat + 2) ([] : List Dm) r1.2 0))
def Mt (s c : ByteArray) : Option ByteArray :=
  Chk (decide (s.size ≤ 9223372036854775807)) (Chk (decide (c.size < 4294967281)) (Chk (c.data.toList.all fun b=>decide (b.toNat < 128)) (some ⟨(Lib.trimS s.data.toList c.data.toList).toArray⟩)))
def Ix (p_s : ByteArray) : Option Bool :=
  Hc (fun (c1 : Bool) =>
  Hc (fun (c2 : Bool) =>
  Hc (fun (c3 : Bool) =>
  some c3) (fun j3 =>
  if c2 then Option.bind (Mt p_s Em) (fun r1 =>
  j3 (c2 && (decide (r1 = Ec)))) else j3 (c2 && true))) (fun j2 =>
  if c1 then Chk (inB 0 p_s.size) (
  j2 (c1 && (decide ((Ma p_s 0) ≤ 122)))) else j2 (c1 && true))) (fun j1 =>
  if ((decide (1 ≤ (p_s.size : Int))) && (decide ((p_s.size : Int) ≤ 40))) then Chk (inB 0 p_s.size) (
  j1 (((decide (1 ≤ (p_s.size : Int))) && (decide ((p_s.size : Int) ≤ 40))) && (decide (97 ≤ (Ma p_s 0))))) else j1 (((decide (1 ≤ (p_s.size : Int))) && (decide ((p_s.size : Int) ≤ 40))) && true))
def Ig (p_n : Int) (p_low : Int) (p_high : Int) : Bool :=
  ((decide (p_low ≤ p_n)) && (decide (p_n ≤ p_high)))
def Ju (p_n : Int) : Bool :=
  (Ig p_n 1 360000)
def Fa (p_l : List Dw) (j1 : Option Int) : List Dw → Nat → Option Int
  | [],_=>j1
  | y1 :: ys1,i1=>Option.bind (Ix y1.Race) (fun r1 =>
  if !r1 then
  some 5
  else
  Hc (fun (c1 : Bool) =>
  if c1 then
  some 7
  else
  if !(Ju y1.Time) then
  some 1
  else
  Fa p_l j1 ys1 (i1 + 1)) (fun j2 =>
  if (decide (0 < (i1 : Int))) then Chk (inB (W ((i1 : Int) - 1)) p_l.length) (
  j2 ((decide (0 < (i1 : Int))) && (To y1.Race ((nth p_l (W ((i1 : Int) - 1))).Race) || decide (y1.Race = ((nth p_l (W ((i1 : Int) - 1))).Race))))) else j2 ((decide (0 < (i1 : Int))) && true)))
def Gk (p_l : List Dw) : Option Int :=
  if decide (500 < (p_l.length : Int)) then
  some 2
  else
  Hc (some 0) (fun j1 =>
  Fa p_l j1 p_l 0)
def Gu (p_race : ByteArray) (j1 : Int) : List Dw → Nat → Int
  | [],_=>j1
  | y1 :: ys1,i1=>if decide (y1.Race = p_race) then
  y1.Time
  else
  Gu p_race j1 ys1 (i1 + 1)
def Dn (p_l : List Dw) (p_race : ByteArray) : Int :=
  Hc (0) (fun j1 =>
  Gu p_race j1 p_l 0)
def Eh (p_x : Int) (p_y : Int) : (Int × Int) :=
  (IntKind.wrap .u64 ((IntKind.wrap .u64 ((IntKind.wrap .u64 ((Dt .u64 p_x 32) * (Dt .u64 p_y 32))) + (Dt .u64 (IntKind.wrap .u64 ((IntKind.wrap .u64 ((Dt .u64 p_x 32) * (Hl .u64 p_y 4294967295))) + (Dt .u64 (IntKind.wrap .u64 ((Hl .u64 p_x 4294967295) * (Hl .u64 p_y 4294967295))) 32))) 32))) + (Dt .u64 (IntKind.wrap .u64 ((Hl .u64 (IntKind.wrap .u64 ((IntKind.wrap .u64 ((Dt .u64 p_x 32) * (Hl .u64 p_y 4294967295))) + (Dt .u64 (IntKind.wrap .u64 ((Hl .u64 p_x 4294967295) * (Hl .u64 p_y 4294967295))) 32))) 4294967295) + (IntKind.wrap .u64 ((Hl .u64 p_x 4294967295) * (Dt .u64 p_y 32))))) 32)),IntKind.wrap .u64 (p_x * p_y))
def Ng (p_x : Int) : Option Int :=
  Hc (fun (x1 : Int) (x2 : Int) =>
  Hc (fun (x3 : Int) (x4 : Int) =>
  Hc (fun (x5 : Int) (x6 : Int) =>
  Chk (inB (IntKind.wrap .u8 x5) Eb.size) (
  some (W (x6 + (W (Ma Eb (IntKind.wrap .u8 x5))))))) (fun j3 =>
  if decide (256 ≤ x3) then
  j3 (Dt .u64 x3 8) (W (x4 + 8))
  else
  j3 x3 x4)) (fun j2 =>
  if decide (65536 ≤ x1) then
  j2 (Dt .u64 x1 16) (W (x2 + 16))
  else
  j2 x1 x2)) (fun j1 =>
  if decide (4294967296 ≤ p_x) then
  j1 (Dt .u64 p_x 32) 32
  else
  j1 p_x 0)
def Jo (p_x : Int) : Option Int :=
  Option.bind (Ng p_x) (fun r1 =>
  some (W (64 - r1)))
def Ib (p_lo : Int) (r1 : Int) (p_y : Int) (j1 : Int → Option (Int × Int)) : Nat → Int → Int → Option (Int × Int)
  | 0,_,_=>none
  | m1 + 1,x1,x2=>if ((decide (4294967296 ≤ x1)) || (decide ((IntKind.wrap .u64 ((IntKind.wrap .u64 (4294967296 * x2)) + (Dt .u64 (Ds .u64 p_lo (IntKind.wrap .u64 r1)) 32))) < (IntKind.wrap .u64 (x1 * (Hl .u64 (Ds .u64 p_y (IntKind.wrap .u64 r1)) 4294967295)))))) then
  if decide (4294967296 ≤ (IntKind.wrap .u64 (x2 + (Dt .u64 (Ds .u64 p_y (IntKind.wrap .u64 r1)) 32)))) then
  j1 (IntKind.wrap .u64 (x1 - 1))
  else
  Ib p_lo r1 p_y j1 m1 (IntKind.wrap .u64 (x1 - 1)) (IntKind.wrap .u64 (x2 + (Dt .u64 (Ds .u64 p_y (IntKind.wrap .u64 r1)) 32)))
  else
  j1 x1
def Hp (p_lo : Int) (r1 : Int) (p_y : Int) (j2 : Int → Option (Int × Int)) : Nat → Int → Int → Option (Int × Int)
  | 0,_,_=>none
  | m2 + 1,x3,x4=>if ((decide (4294967296 ≤ x4)) || (decide ((IntKind.wrap .u64 ((IntKind.wrap .u64 (4294967296 * x3)) + (Hl .u64 (Ds .u64 p_lo (IntKind.wrap .u64 r1)) 4294967295))) < (IntKind.wrap .u64 (x4 * (Hl .u64 (Ds .u64 p_y (IntKind.wrap .u64 r1)) 4294967295)))))) then
  if decide (4294967296 ≤ (IntKind.wrap .u64 (x3 + (Dt .u64 (Ds .u64 p_y (IntKind.wrap .u64 r1)) 32)))) then
  j2 (IntKind.wrap .u64 (x4 - 1))
  else
  Hp p_lo r1 p_y j2 m2 (IntKind.wrap .u64 (x3 + (Dt .u64 (Ds .u64 p_y (IntKind.wrap .u64 r1)) 32))) (IntKind.wrap .u64 (x4 - 1))
  else
  j2 x4
def Mj (p_hi : Int) (p_lo : Int) (p_y : Int) : Option (Int × Int) :=
  if decide (p_y = 0) then
  none
  else
  if decide (p_y ≤ p_hi) then
  none
  else
  if decide (p_hi = 0) then
  Chk (!decide (p_y = 0)) (
  Chk (!decide (p_y = 0)) (
  some (IntKind.wrap .u64 (Int.tdiv p_lo p_y),Int.tmod p_lo p_y)))
  else
  Option.bind (Jo p_y) (fun r1 =>
  Chk (decide (0 ≤ (IntKind.wrap .u64 r1))) (
  Chk (decide (0 ≤ (IntKind.wrap .u64 r1))) (
  Chk (decide (0 ≤ (IntKind.wrap .u64 (64 - (IntKind.wrap .u64 r1))))) (
  Chk (decide (0 ≤ (IntKind.wrap .u64 r1))) (
  Chk (!decide ((Dt .u64 (Ds .u64 p_y (IntKind.wrap .u64 r1)) 32) = 0)) (
  Hc (fun (x1 : Int) =>
  Chk (!decide ((Dt .u64 (Ds .u64 p_y (IntKind.wrap .u64 r1)) 32) = 0)) (
  Hc (fun (x4 : Int) =>
  Chk (decide (0 ≤ (IntKind.wrap .u64 r1))) (
  some (IntKind.wrap .u64 ((IntKind.wrap .u64 (x1 * 4294967296)) + x4),Dt .u64 (IntKind.wrap .u64 ((IntKind.wrap .u64 ((IntKind.wrap .u64 ((IntKind.wrap .u64 ((IntKind.wrap .u64 ((IntKind.wrap .u64 ((Ks .u64 (Ds .u64 p_hi (IntKind.wrap .u64 r1)) (Dt .u64 p_lo (IntKind.wrap .u64 (64 - (IntKind.wrap .u64 r1))))) * 4294967296)) + (Dt .u64 (Ds .u64 p_lo (IntKind.wrap .u64 r1)) 32))) - (IntKind.wrap .u64 (x1 * (Ds .u64 p_y (IntKind.wrap .u64 r1)))))) * 4294967296)) + (Hl .u64 (Ds .u64 p_lo (IntKind.wrap .u64 r1)) 4294967295))) - (IntKind.wrap .u64 (x4 * (Ds .u64 p_y (IntKind.wrap .u64 r1)))))) (IntKind.wrap .u64 r1)))) (fun j2 =>
  Hp p_lo r1 p_y j2 (((IntKind.wrap .u64 (Int.tdiv (IntKind.wrap .u64 ((IntKind.wrap .u64 ((IntKind.wrap .u64 ((Ks .u64 (Ds .u64 p_hi (IntKind.wrap .u64 r1)) (Dt .u64 p_lo (IntKind.wrap .u64 (64 - (IntKind.wrap .u64 r1))))) * 4294967296)) + (Dt .u64 (Ds .u64 p_lo (IntKind.wrap .u64 r1)) 32))) - (IntKind.wrap .u64 (x1 * (Ds .u64 p_y (IntKind.wrap .u64 r1)))))) (Dt .u64 (Ds .u64 p_y (IntKind.wrap .u64 r1)) 32))) - 4294967296).toNat + 2) (IntKind.wrap .u64 ((IntKind.wrap .u64 ((IntKind.wrap .u64 ((IntKind.wrap .u64 ((Ks .u64 (Ds .u64 p_hi (IntKind.wrap .u64 r1)) (Dt .u64 p_lo (IntKind.wrap .u64 (64 - (IntKind.wrap .u64 r1))))) * 4294967296)) + (Dt .u64 (Ds .u64 p_lo (IntKind.wrap .u64 r1)) 32))) - (IntKind.wrap .u64 (x1 * (Ds .u64 p_y (IntKind.wrap .u64 r1)))))) - (IntKind.wrap .u64 ((IntKind.wrap .u64 (Int.tdiv (IntKind.wrap .u64 ((IntKind.wrap .u64 ((IntKind.wrap .u64 ((Ks .u64 (Ds .u64 p_hi (IntKind.wrap .u64 r1)) (Dt .u64 p_lo (IntKind.wrap .u64 (64 - (IntKind.wrap .u64 r1))))) * 4294967296)) + (Dt .u64 (Ds .u64 p_lo (IntKind.wrap .u64 r1)) 32))) - (IntKind.wrap .u64 (x1 * (Ds .u64 p_y (IntKind.wrap .u64 r1)))))) (Dt .u64 (Ds .u64 p_y (IntKind.wrap .u64 r1)) 32))) * (Dt .u64 (Ds .u64 p_y (IntKind.wrap .u64 r1)) 32))))) (IntKind.wrap .u64 (Int.tdiv (IntKind.wrap .u64 ((IntKind.wrap .u64 ((IntKind.wrap .u64 ((Ks .u64 (Ds .u64 p_hi (IntKind.wrap .u64 r1)) (Dt .u64 p_lo (IntKind.wrap .u64 (64 - (IntKind.wrap .u64 r1))))) * 4294967296)) + (Dt .u64 (Ds .u64 p_lo (IntKind.wrap .u64 r1)) 32))) - (IntKind.wrap .u64 (x1 * (Ds .u64 p_y (IntKind.wrap .u64 r1)))))) (Dt .u64 (Ds .u64 p_y (IntKind.wrap .u64 r1)) 32)))))) (fun j1 =>
  Ib p_lo r1 p_y j1 (((IntKind.wrap .u64 (Int.tdiv (Ks .u64 (Ds .u64 p_hi (IntKind.wrap .u64 r1)) (Dt .u64 p_lo (IntKind.wrap .u64 (64 - (IntKind.wrap .u64 r1))))) (Dt .u64 (Ds .u64 p_y (IntKind.wrap .u64 r1)) 32))) - 4294967296).toNat + 2) (IntKind.wrap .u64 (Int.tdiv (Ks .u64 (Ds .u64 p_hi (IntKind.wrap .u64 r1)) (Dt .u64 p_lo (IntKind.wrap .u64 (64 - (IntKind.wrap .u64 r1))))) (Dt .u64 (Ds .u64 p_y (IntKind.wrap .u64 r1)) 32))) (IntKind.wrap .u64 ((Ks .u64 (Ds .u64 p_hi (IntKind.wrap .u64 r1)) (Dt .u64 p_lo (IntKind.wrap .u64 (64 - (IntKind.wrap .u64 r1))))) - (IntKind.wrap .u64 ((IntKind.wrap .u64 (Int.tdiv (Ks .u64 (Ds .u64 p_hi (IntKind.wrap .u64 r1)) (Dt .u64 p_lo (IntKind.wrap .u64 (64 - (IntKind.wrap .u64 r1))))) (Dt .u64 (Ds .u64 p_y (IntKind.wrap .u64 r1)) 32))) * (Dt .u64 (Ds .u64 p_y (IntKind.wrap .u64 r1)) 32))))))))))))
def Hq (p_base : Int) (p_time : Int) : Option Int :=
  if decide ((IntKind.wrap .u64 ((IntKind.wrap .u64 ((IntKind.wrap .u64 p_time) * (IntKind.wrap .u64 p_time))) * (IntKind.wrap .u64 p_time))) ≤ ((Eh (IntKind.wrap .u64 ((IntKind.wrap .u64 ((IntKind.wrap .u64 p_base) * (IntKind.wrap .u64 p_base))) * (IntKind.wrap .u64 p_base))) 1000).1)) then
  some 1000000000
  else
  Option.bind (Mj ((Eh (IntKind.wrap .u64 ((IntKind.wrap .u64 ((IntKind.wrap .u64 p_base) * (IntKind.wrap .u64 p_base))) * (IntKind.wrap .u64 p_base))) 1000).1) ((Eh (IntKind.wrap .u64 ((IntKind.wrap .u64 ((IntKind.wrap .u64 p_base) * (IntKind.wrap .u64 p_base))) * (IntKind.wrap .u64 p_base))) 1000).2) (IntKind.wrap .u64 ((IntKind.wrap .u64 ((IntKind.wrap .u64 p_time) * (IntKind.wrap .u64 p_time))) * (IntKind.wrap .u64 p_time)))) (fun r1 =>
  some (W (On r1.1 1000000000)))
def Lg (p_l : List Dw) (p_race : ByteArray) (p_time : Int) : Option (Int × Int) :=
  Option.bind (Gk p_l) (fun r1 =>
  if !decide (r1 = 0) then
  some (0,r1)
  else
  if decide ((Dn p_l p_race) = 0) then
  some (0,8)
  else
  if !(Ju p_time) then
  some (0,1)
  else
  Option.bind (Hq (Dn p_l p_race) p_time) (fun r2 =>
  some (r2,0)))
def Gn (p_l : List Dw) (p_race : ByteArray) (p_points : Int) (j1 : Int → Option (Int × Bool × Int)) : Nat → Int → Int → Option (Int × Bool × Int)
  | 0,_,_=>none
  | m1 + 1,x1,x2=>if decide (x1 < x2) then
  Hc (fun (x3 : Int) (x4 : Int) =>
  Gn p_l p_race p_points j1 m1 x3 x4) (fun j2 =>
  Option.bind (Hq (Dn p_l p_race) (W (Int.tdiv (W ((W (x1 + x2)) + 1)) 2))) (fun r3 =>
  Hc (fun (x5 : Int) (x6 : Int) =>
  j2 x5 x6) (fun j3 =>
  if decide (p_points ≤ r3) then
  j3 (W (Int.tdiv (W ((W (x1 + x2)) + 1)) 2)) x2
  else
  j3 x1 (W ((W (Int.tdiv (W ((W (x1 + x2)) + 1)) 2)) - 1)))))
  else
  j1 x1
def Ls (p_l : List Dw) (p_race : ByteArray) (p_points : Int) : Option (Int × Bool × Int) :=
  Option.bind (Gk p_l) (fun r1 =>
  if !decide (r1 = 0) then
  some (0,false,r1)
  else
  if decide ((Dn p_l p_race) = 0) then
  some (0,false,8)
  else
  if !(Ig p_points 1 1000000) then
  some (0,false,1)
  else
  Option.bind (Hq (Dn p_l p_race) 1) (fun r2 =>
  if decide (r2 < p_points) then
  some (0,false,0)
  else
  Hc (fun (x1 : Int) =>
  some (x1,true,0)) (fun j1 =>
  Gn p_l p_race p_points j1 360001 1 360000)))
def Ey (j1 : Option Int) : List Dm → Nat → Option Int
  | [],_=>j1
  | y1 :: ys1,i1=>Option.bind (Ix y1.Race) (fun r1 =>
  Hc (fun (c1 : Bool) =>
  if c1 then
  some 5
  else
  if !(Ig y1.Time 0 360000) then
  some 1
  else
  Ey j1 ys1 (i1 + 1)) (fun j2 =>
  if (!r1) then j2 ((!r1) || true) else Option.bind (Ix y1.Who) (fun r2 =>
  j2 ((!r1) || (!r2)))))
def Iu (p_r : List Dm) : Option Int :=
  if decide (2000 < (p_r.length : Int)) then
  some 2
  else
  Hc (some 0) (fun j1 =>
  Ey j1 p_r 0)
def Rx (p_x : Int) : Option Int :=
  Hc (fun (x1 : Int) (x2 : Int) =>
  Hc (fun (x3 : Int) (x4 : Int) =>
  Chk (inB (IntKind.wrap .u8 x3) Eb.size) (
  some (W (x4 + (W (Ma Eb (IntKind.wrap .u8 x3))))))) (fun j2 =>
  if decide (256 ≤ x1) then
  j2 (Dt .u32 x1 8) (W (x2 + 8))
  else
  j2 x1 x2)) (fun j1 =>
  if decide (65536 ≤ p_x) then
  j1 (Dt .u32 p_x 16) 16
  else
  j1 p_x 0)
def Ph (p_x : Int) : Option Int :=
  if false then
  Option.bind (Rx (IntKind.wrap .u32 p_x)) (fun r1 =>
  some r1)
  else
  Option.bind (Ng p_x) (fun r2 =>
  some r2)
def Qe (s t : ByteArray) : Int:=Lib.compareBytes s.data.toList t.data.toList
def Jg (p_a : De) (p_b : De) : Int :=
  (Qe p_a.Key p_b.Key)
def Dj (p_a : Int) (j2 : (List De) → Option (List De)) : Nat → (List De) → Int → Option (List De)
  | 0,_,_=>none
  | m2 + 1,x3,x4=>Hc (fun (x5 : Bool) =>
  if x5 then
  Chk (inB (W (x4 - 1)) x3.length) (
  Chk (inB x4 x3.length) (
  Chk (inB x4 x3.length) (
  Chk (inB (W (x4 - 1)) (x3.set x4.toNat (De.mk ((nth x3 (W (x4 - 1))).Key) ((nth x3 (W (x4 - 1))).Points))).length) (
  Dj p_a j2 m2 ((x3.set x4.toNat (De.mk ((nth x3 (W (x4 - 1))).Key) ((nth x3 (W (x4 - 1))).Points))).set ((W (x4 - 1)).toNat) (De.mk ((nth x3 x4).Key) ((nth x3 x4).Points))) (W (x4 - 1))))))
  else
  j2 x3) (fun j3 =>
  if decide (p_a < x4) then
  Chk (inB x4 x3.length) (
  Chk (inB (W (x4 - 1)) x3.length) (
  j3 (decide ((Jg (De.mk ((nth x3 x4).Key) ((nth x3 x4).Points)) (De.mk ((nth x3 (W (x4 - 1))).Key) ((nth x3 (W (x4 - 1))).Points))) < 0))))
  else
  j3 false)
def Dp (p_b : Int) (p_a : Int) (j1 : (List De) → Option (List De)) : Nat → (List De) → Int → Option (List De)
  | 0,_,_=>none
  | m1 + 1,x1,x2=>if decide (x2 < p_b) then
  Hc (fun (x3 : List De) =>
  Dp p_b p_a j1 m1 x3 (W (x2 + 1))) (fun j2 =>
  Dj p_a j2 ((x2 - p_a).toNat + 2) x1 x2)
  else
  j1 x1
def Eo (p_data : List De) (p_a : Int) (p_b : Int) : Option (List De) :=
  Hc (fun (x1 : List De) =>
  some x1) (fun j1 =>
  Dp p_b p_a j1 ((p_b - (W (p_a + 1))).toNat + 2) p_data (W (p_a + 1)))
def Ed (p_data : List De) : Nat → Int → Int → Int → Bool → Option (List De)
  | 0,_,_,_,_=>none
  | _ + 1,x1,x2,x3,x4=>if decide ((W (x2 - x1)) ≤ 12) then
  Option.bind (Eo p_data x1 x2) (fun r1 =>
  some r1)
  else
  if decide (x3 = 0) then
  none
  else
  if !x4 then
  none
  else
  none
def Fx (p_data : List De) (p_a : Int) (p_b : Int) (p_limit : Int) : Option (List De) :=
  Ed p_data 4611686018427387904 p_a p_b p_limit true
def Fw (p_x : List De) : Option (List De) :=
  Option.bind (Ph (IntKind.wrap .u64 (p_x.length : Int))) (fun r1 =>
  Option.bind (Fx p_x 0 (p_x.length : Int) r1) (fun r2 =>
  some r2))
def Ic (j1 : (List De) → Option (List De)) : List (ByteArray × Di) → (List De) → Option (List De)
  | [],x1=>j1 x1
  | y1 :: ys1,x1=>Option.bind (α:=(List De)) (
  Chk (Rh x1.length) (
  some (x1 ++ [(De.mk y1.1 y1.2)]))) (fun s=>Ic j1 ys1 s)
def Lt (p_m : List (ByteArray × Di)) : Option (List De) :=
  Hc (fun (x1 : List De) =>
  Option.bind (Fw x1) (fun r1 =>
  some r1)) (fun j1 =>
  Ul p_m (fun p=>Ic j1 p ([] : List De)))
def Hv (p_a : Int) (p_b : Int) : Int :=
  W (p_b - p_a)
def Dk (p_a : Int) (j2 : (List Int) → Option (List Int)) : Nat → (List Int) → Int → Option (List Int)
  | 0,_,_=>none
  | m2 + 1,x3,x4=>Hc (fun (x5 : Bool) =>
  if x5 then
  Chk (inB (W (x4 - 1)) x3.length) (
  Chk (inB x4 x3.length) (
  Chk (inB x4 x3.length) (
  Chk (inB (W (x4 - 1)) (x3.set x4.toNat (nth x3 (W (x4 - 1)))).length) (
  Dk p_a j2 m2 ((x3.set x4.toNat (nth x3 (W (x4 - 1)))).set ((W (x4 - 1)).toNat) (nth x3 x4)) (W (x4 - 1))))))
  else
  j2 x3) (fun j3 =>
  if decide (p_a < x4) then
  Chk (inB x4 x3.length) (
  Chk (inB (W (x4 - 1)) x3.length) (
  j3 (decide ((Hv (nth x3 x4) (nth x3 (W (x4 - 1)))) < 0))))
  else
  j3 false)
def Dq (p_b : Int) (p_a : Int) (j1 : (List Int) → Option (List Int)) : Nat → (List Int) → Int → Option (List Int)
  | 0,_,_=>none
  | m1 + 1,x1,x2=>if decide (x2 < p_b) then
  Hc (fun (x3 : List Int) =>
  Dq p_b p_a j1 m1 x3 (W (x2 + 1))) (fun j2 =>
  Dk p_a j2 ((x2 - p_a).toNat + 2) x1 x2)
  else
  j1 x1
def Ep (p_data : List Int) (p_a : Int) (p_b : Int) : Option (List Int) :=
  Hc (fun (x1 : List Int) =>
  some x1) (fun j1 =>
  Dq p_b p_a j1 ((p_b - (W (p_a + 1))).toNat + 2) p_data (W (p_a + 1)))
def Ee (p_data : List Int) : Nat → Int → Int → Int → Bool → Option (List Int)
  | 0,_,_,_,_=>none
  | _ + 1,x1,x2,x3,x4=>if decide ((W (x2 - x1)) ≤ 12) then
  Option.bind (Ep p_data x1 x2) (fun r1 =>
  some r1)
  else
  if decide (x3 = 0) then
  none
  else
  if !x4 then
  none
  else
  none
def Fy (p_data : List Int) (p_a : Int) (p_b : Int) (p_limit : Int) : Option (List Int) :=
  Ee p_data 4611686018427387904 p_a p_b p_limit true
def Fb (p_x : List Int) : Option (List Int) :=
  Option.bind (Ph (IntKind.wrap .u64 (p_x.length : Int))) (fun r1 =>
  Option.bind (Fy p_x 0 (p_x.length : Int) r1) (fun r2 =>
  some r2))
def Gv (p_l : List Dw) (j1 : List (Df × Int) → List (ByteArray × List Int) → Option (List De × Int)) : List Dm → Nat → List (Df × Int) → List (ByteArray × List Int) → Option (List De × Int)
  | [],_,x1,x2=>j1 x1 x2
  | y1 :: ys1,i1,x1,x2=>Hc (fun (x3 : List (Df × Int)) =>
  Gv p_l j1 ys1 (i1 + 1) x3 (Fz x2 y1.Who [])) (fun j2 =>
  if ((decide (0 < (Dn p_l y1.Race))) && (decide (0 < y1.Time))) then
  Option.bind (Hq (Dn p_l y1.Race) y1.Time) (fun r1 =>
  j2 (Fz x1 (Df.mk y1.Race y1.Who) (Rt (Gp x1 (Df.mk y1.Race y1.Who) 0) r1)))
  else
  j2 x1)
def Gw (j3 : List (ByteArray × List Int) → Option (List De × Int)) : List (Df × Int) → List (ByteArray × List Int) → Option (List De × Int)
  | [],x=>j3 x
  | y :: ys,x=>Option.bind (α:=List (ByteArray × List Int)) (Chk (Rh (Gp x y.1.who_ []).length) (some (Fz x y.1.who_ (Gp x y.1.who_ [] ++ [y.2])))) (fun s=>Gw j3 ys s)
def Gl (j5 : Int → Option (List (ByteArray × Di))) : List Int → Nat → Int → Option (List (ByteArray × Di))
  | [],_,x=>j5 x
  | y :: ys,i,x=>Gl j5 ys (i + 1) (W (x + y))
def Gm (p_many : Int) (j4 : List (ByteArray × Di) → Option (List De × Int)) : List (ByteArray × List Int) → List (ByteArray × Di) → Option (List De × Int)
  | [],x=>j4 x
  | y :: ys,x=>Option.bind (α:=List (ByteArray × Di)) (Option.bind (Fb y.2) (fun r =>
  Chk (Pr 0 (On p_many (r.length : Int)) r.length) (
  Hc (fun (s : Int)=>some (Fz x y.1 (Di.mk s 1))) (fun j5 =>
  Gl j5 (cut r 0 (On p_many (r.length : Int))) 0 0)))) (fun s=>Gm p_many j4 ys s)
def Je (p_l : List Dw) (p_r : List Dm) (p_many : Int) : Option (List De × Int) :=
  Option.bind (Gk p_l) (fun r1 =>
  if !decide (r1 = 0) then
  some (([] : List De),r1)
  else
  Option.bind (Iu p_r) (fun r2 =>
  if !decide (r2 = 0) then
  some (([] : List De),r2)
  else
  if !(Ig p_many 1 100) then
  some (([] : List De),1)
  else
  Hc (fun (x1 : List (Df × Int)) (x2 : List (ByteArray × List Int)) =>
  Hc (fun (x3 : List (ByteArray × List Int)) =>
  Hc (fun (x4 : List (ByteArray × Di)) =>
  Option.bind (Lt x4) (fun r3 =>
  some (r3,0))) (fun j4 =>
  Ul x3 (fun p=>Gm p_many j4 p ([] : List (ByteArray × Di))))) (fun j3 =>
  Ul x1 (fun p=>Gw j3 p x2))) (fun j1 =>
  Gv p_l j1 p_r 0 ([] : List (Df × Int)) ([] : List (ByteArray × List Int)))))
def Gy (p_n : Int) (p_low : Int) (p_high : Int) : Bool :=
  ((decide (p_low ≤ p_n)) && (decide (p_n ≤ p_high)))
def Lm (s : ByteArray) (c : Int) : Int:=Lib.indexByte s.data.toList c.toNat.toUInt8
def Gx (p_s : ByteArray) (p_some : ByteArray) (j1 : Option Bool) : Nat → Int → Option Bool
  | 0,_=>none
  | m1 + 1,x1=>if decide (x1 < (p_s.size : Int)) then
  Chk (inB x1 p_s.size) (
  if decide ((Lm p_some (Ma p_s x1)) < 0) then
  some false
  else
  Gx p_s p_some j1 m1 (W (x1 + 1)))
  else
  j1
def Lh (p_s : ByteArray) (p_some : ByteArray) : Option Bool :=
  Hc (some true) (fun j1 =>
  Gx p_s p_some j1 (((p_s.size : Int) - 0).toNat + 2) 0)
def Js (p_s : ByteArray) : Option Bool :=
  Hc (fun (c1 : Bool) =>
  Hc (fun (c2 : Bool) =>
  some c2) (fun j2 =>
  if c1 then Option.bind (Lh p_s Em) (fun r2 =>
  j2 (c1 && r2)) else j2 (c1 && true))) (fun j1 =>
  if (Gy (p_s.size : Int) 1 40) then Chk (Pr 0 1 p_s.size) (
  Option.bind (Lh (Xu p_s 0 1) Gj) (fun r1 =>
  j1 ((Gy (p_s.size : Int) 1 40) && r1))) else j1 ((Gy (p_s.size : Int) 1 40) && true))
def Fq (j1 : Option Int) : List Dw → Nat → ByteArray → Option Int
  | [],_,_=>j1
  | y1 :: ys1,i1,x1=>Option.bind (Js y1.Race) (fun r1 =>
  if !r1 then
  some 5
  else
  if (To y1.Race x1 || decide (y1.Race = x1)) then
  some 7
  else
  if !(Gy y1.Time 1 360000) then
  some 1
  else
  Fq j1 ys1 (i1 + 1) y1.Race)
def Ik (p_l : List Dw) : Option Int :=
  if decide (500 < (p_l.length : Int)) then
  some 2
  else
  Hc (some 0) (fun j1 =>
  Fq j1 p_l 0 Ec)
def Ih (p_x : Dw) (p_a1 : ByteArray) : Bool :=
  decide (p_x.Race = p_a1)
def Dh (p_f_0 : ByteArray) (j1 : Int) : List Dw → Nat → Int
  | [],_=>j1
  | y1 :: ys1,i1=>if (Ih y1 p_f_0) then
  (i1 : Int)
  else
  Dh p_f_0 j1 ys1 (i1 + 1)
def Gd (p_s : List Dw) (p_f_0 : ByteArray) : Int :=
  Hc ((-1)) (fun j1 =>
  Dh p_f_0 j1 p_s 0)
def An (p_s : List Dw) (p_f_0 : ByteArray) : Bool :=
  decide (0 ≤ (Gd p_s p_f_0))
def Dc (p_is : Bool) (p_e : Int) : Int :=
  if p_is then
  p_e
  else
  0
def Gc (j1 : Int) : List Int → Nat → Int
  | [],_=>j1
  | y1 :: ys1,i1=>if !decide (y1 = 0) then
  y1
  else
  Gc j1 ys1 (i1 + 1)
def Dd (p_l : List Int) : Int :=
  Hc (0) (fun j1 =>
  Gc j1 p_l 0)
def Ez (j1 : Option Int) : List Dm → Nat → Option Int
  | [],_=>j1
  | y1 :: ys1,i1=>Option.bind (Js y1.Race) (fun r1 =>
  Hc (fun (c1 : Bool) =>
  if c1 then
  some 5
  else
  if !(Gy y1.Time 0 360000) then
  some 1
  else
  Ez j1 ys1 (i1 + 1)) (fun j2 =>
  if (!r1) then j2 ((!r1) || true) else Option.bind (Js y1.Who) (fun r2 =>
  j2 ((!r1) || (!r2)))))
def Jp (p_l : List Dm) : Option Int :=
  if decide (2000 < (p_l.length : Int)) then
  some 2
  else
  Hc (some 0) (fun j1 =>
  Ez j1 p_l 0)
def Ge (p_race : ByteArray) (j1 : Int) : List Dw → Nat → Int
  | [],_=>j1
  | y1 :: ys1,i1=>if decide (y1.Race = p_race) then
  y1.Time
  else
  Ge p_race j1 ys1 (i1 + 1)
def Eg (p_l : List Dw) (p_race : ByteArray) : Int :=
  Hc (0) (fun j1 =>
  Ge p_race j1 p_l 0)
def Iy (p_base : Int) (p_time : Int) (p_n : Int) : Bool :=
  ((decide (((Eh (IntKind.wrap .u64 ((IntKind.wrap .u64 ((IntKind.wrap .u64 p_time) * (IntKind.wrap .u64 p_time))) * (IntKind.wrap .u64 p_time))) (IntKind.wrap .u64 p_n)).1) < ((Eh (IntKind.wrap .u64 ((IntKind.wrap .u64 ((IntKind.wrap .u64 p_base) * (IntKind.wrap .u64 p_base))) * (IntKind.wrap .u64 p_base))) 1000).1))) || ((decide (((Eh (IntKind.wrap .u64 ((IntKind.wrap .u64 ((IntKind.wrap .u64 p_time) * (IntKind.wrap .u64 p_time))) * (IntKind.wrap .u64 p_time))) (IntKind.wrap .u64 p_n)).1) = ((Eh (IntKind.wrap .u64 ((IntKind.wrap .u64 ((IntKind.wrap .u64 p_base) * (IntKind.wrap .u64 p_base))) * (IntKind.wrap .u64 p_base))) 1000).1))) && (decide (((Eh (IntKind.wrap .u64 ((IntKind.wrap .u64 ((IntKind.wrap .u64 p_time) * (IntKind.wrap .u64 p_time))) * (IntKind.wrap .u64 p_time))) (IntKind.wrap .u64 p_n)).2) ≤ ((Eh (IntKind.wrap .u64 ((IntKind.wrap .u64 ((IntKind.wrap .u64 p_base) * (IntKind.wrap .u64 p_base))) * (IntKind.wrap .u64 p_base))) 1000).2)))))
def Ft (p_l : List Dw) (p_race : ByteArray) (p_time : Int) (j1 : Int → Option Int) : Nat → Int → Int → Option Int
  | 0,_,_=>none
  | m1 + 1,x1,x2=>if decide (x1 < x2) then
  Hc (fun (x3 : Int) (x4 : Int) =>
  Ft p_l p_race p_time j1 m1 x3 x4) (fun j2 =>
  Hc (fun (x5 : Int) (x6 : Int) =>
  j2 x5 x6) (fun j3 =>
  if (Iy (Eg p_l p_race) p_time (W (Int.tdiv (W ((W (x1 + x2)) + 1)) 2))) then
  j3 (W (Int.tdiv (W ((W (x1 + x2)) + 1)) 2)) x2
  else
  j3 x1 (W ((W (Int.tdiv (W ((W (x1 + x2)) + 1)) 2)) - 1))))
  else
  j1 x1
def Fv (p_l : List Dw) (p_race : ByteArray) (p_time : Int) : Option Int :=
  Hc (fun (x1 : Int) =>
  some x1) (fun j1 =>
  Ft p_l p_race p_time j1 1000000002 0 1000000000)
def Gq (p_l : List Dw) (p_race : ByteArray) (p_points : Int) (j1 : Int → Option (Int × Bool)) : Nat → Int → Int → Option (Int × Bool)
  | 0,_,_=>none
  | m1 + 1,x1,x2=>if decide (x1 < x2) then
  Hc (fun (x3 : Int) (x4 : Int) =>
  Gq p_l p_race p_points j1 m1 x3 x4) (fun j2 =>
  Hc (fun (x5 : Int) (x6 : Int) =>
  j2 x5 x6) (fun j3 =>
  if (Iy (Eg p_l p_race) (W (Int.tdiv (W ((W (x1 + x2)) + 1)) 2)) p_points) then
  j3 (W (Int.tdiv (W ((W (x1 + x2)) + 1)) 2)) x2
  else
  j3 x1 (W ((W (Int.tdiv (W ((W (x1 + x2)) + 1)) 2)) - 1))))
  else
  j1 x1
def Jl (p_l : List Dw) (p_race : ByteArray) (p_points : Int) : Option (Int × Bool) :=
  Hc (fun (x1 : Int) =>
  some (x1,decide (0 < x1))) (fun j1 =>
  Gq p_l p_race p_points j1 360002 0 360000)
def Jh (l : List ByteArray) : List ByteArray:=((l.map fun b=>b.data.toList).mergeSort fun x y=>decide (x ≤ y)).map fun b=>⟨b.toArray⟩
def Lb (p_x : List ByteArray) : Option (List ByteArray):=Chk (decide (p_x.length < 4611686018427387904)) (some (Jh p_x))
def Fl (p_s : List ByteArray) (x1 : Int) (j2 : (List ByteArray) → Int → Option (List ByteArray)) : Nat → (List ByteArray) → Int → Int → Option (List ByteArray)
  | 0,_,_,_=>none
  | m2 + 1,x2,x3,x4=>if decide (x4 < (((p_s.length : Int).toNat - x1.toNat : Nat) : Int)) then
  Hc (fun (x5 : List ByteArray) (x6 : Int) =>
  Fl p_s x1 j2 m2 x5 x6 (W (x4 + 1))) (fun j3 =>
  Chk (inB x4 ((p_s.length : Int).toNat - x1.toNat)) (
  Chk (inB (W (x4 - 1)) ((p_s.length : Int).toNat - x1.toNat)) (
  Hc (fun (x7 : List ByteArray) (x8 : Int) =>
  j3 x7 x8) (fun j4 =>
  if !decide ((nth (cut x2 x1 (p_s.length : Int)) x4) = (nth (cut x2 x1 (p_s.length : Int)) (W (x4 - 1)))) then
  Chk (inB x4 ((p_s.length : Int).toNat - x1.toNat)) (
  Chk (inB x3 x2.length) (
  j4 (x2.set x3.toNat (nth (cut x2 x1 (p_s.length : Int)) x4)) (W (x3 + 1))))
  else
  j4 x2 x3))))
  else
  j2 x2 x3
def Et (p_s : List ByteArray) (j1 : Option (List ByteArray)) : Nat → Int → Option (List ByteArray)
  | 0,_=>none
  | m1 + 1,x1=>if decide (x1 < (p_s.length : Int)) then
  Chk (inB x1 p_s.length) (
  Chk (inB (W (x1 - 1)) p_s.length) (
  if decide ((nth p_s x1) = (nth p_s (W (x1 - 1)))) then
  Chk (Pr x1 (p_s.length : Int) p_s.length) (
  Hc (fun (x2 : List ByteArray) (x3 : Int) =>
  Chk (Pr x3 (x2.length : Int) x2.length) (
  Chk (Pr 0 x3 (clr x2 x3 (x2.length : Int) Ec).length) (
  some (cut (clr x2 x3 (x2.length : Int) Ec) (0 : Int) x3)))) (fun j2 =>
  Fl p_s x1 j2 (((((p_s.length : Int).toNat - x1.toNat : Nat) : Int) - 1).toNat + 2) p_s x1 1))
  else
  Et p_s j1 m1 (W (x1 + 1))))
  else
  j1
def Jc (p_s : List ByteArray) : Option (List ByteArray) :=
  if decide ((p_s.length : Int) < 2) then
  some p_s
  else
  Hc (some p_s) (fun j1 =>
  Et p_s j1 (((p_s.length : Int) - 1).toNat + 2) 1)
def Hg (p_x : Int) : Bool :=
  !decide (p_x = p_x)
def Lu (p_x : Int) (p_y : Int) : Bool :=
  (((Hg p_x) && (!(Hg p_y))) || (decide (p_x < p_y)))
def Ef (p_a : Int) (j2 : (List Int) → Option (List Int)) : Nat → (List Int) → Int → Option (List Int)
  | 0,_,_=>none
  | m2 + 1,x3,x4=>Hc (fun (x5 : Bool) =>
  if x5 then
  Chk (inB (W (x4 - 1)) x3.length) (
  Chk (inB x4 x3.length) (
  Chk (inB x4 x3.length) (
  Chk (inB (W (x4 - 1)) (x3.set x4.toNat (nth x3 (W (x4 - 1)))).length) (
  Ef p_a j2 m2 ((x3.set x4.toNat (nth x3 (W (x4 - 1)))).set ((W (x4 - 1)).toNat) (nth x3 x4)) (W (x4 - 1))))))
  else
  j2 x3) (fun j3 =>
  if decide (p_a < x4) then
  Chk (inB x4 x3.length) (
  Chk (inB (W (x4 - 1)) x3.length) (
  j3 (Lu (nth x3 x4) (nth x3 (W (x4 - 1))))))
  else
  j3 false)
def Ei (p_b : Int) (p_a : Int) (j1 : (List Int) → Option (List Int)) : Nat → (List Int) → Int → Option (List Int)
  | 0,_,_=>none
  | m1 + 1,x1,x2=>if decide (x2 < p_b) then
  Hc (fun (x3 : List Int) =>
  Ei p_b p_a j1 m1 x3 (W (x2 + 1))) (fun j2 =>
  Ef p_a j2 ((x2 - p_a).toNat + 2) x1 x2)
  else
  j1 x1
def Gr (p_data : List Int) (p_a : Int) (p_b : Int) : Option (List Int) :=
  Hc (fun (x1 : List Int) =>
  some x1) (fun j1 =>
  Ei p_b p_a j1 ((p_b - (W (p_a + 1))).toNat + 2) p_data (W (p_a + 1)))
def Fd (p_data : List Int) : Nat → Int → Int → Int → Bool → Option (List Int)
  | 0,_,_,_,_=>none
  | _ + 1,x1,x2,x3,x4=>if decide ((W (x2 - x1)) ≤ 12) then
  Option.bind (Gr p_data x1 x2) (fun r1 =>
  some r1)
  else
  if decide (x3 = 0) then
  none
  else
  if !x4 then
  none
  else
  none
def Iz (p_data : List Int) (p_a : Int) (p_b : Int) (p_limit : Int) : Option (List Int) :=
  Fd p_data 4611686018427387904 p_a p_b p_limit true
def Lf (p_x : List Int) : Option (List Int) :=
  Option.bind (Ph (IntKind.wrap .u64 (p_x.length : Int))) (fun r1 =>
  Option.bind (Iz p_x 0 (p_x.length : Int) r1) (fun r2 =>
  some r2))
def Fu (j1 : (List Int) → Option (List Int)) : Nat → (List Int) → Int → Int → Option (List Int)
  | 0,_,_,_=>none
  | m1 + 1,x1,x2,x3=>if decide (x2 < x3) then
  Chk (inB x3 x1.length) (
  Chk (inB x2 x1.length) (
  Chk (inB x2 x1.length) (
  Chk (inB x3 (x1.set x2.toNat (nth x1 x3)).length) (
  Fu j1 m1 ((x1.set x2.toNat (nth x1 x3)).set x3.toNat (nth x1 x2)) (W (x2 + 1)) (W (x3 - 1))))))
  else
  j1 x1
def Jz (p_s : List Int) : Option (List Int) :=
  Hc (fun (x1 : List Int) =>
  some x1) (fun j1 =>
  Fu j1 (((W ((p_s.length : Int) - 1)) - 0).toNat + 2) p_s 0 (W ((p_s.length : Int) - 1)))
def Ev (p_name : ByteArray) (p_a2 : List Dw) (j1 : (List (ByteArray × Int)) → Option Di) : List Dm → Nat → (List (ByteArray × Int)) → Option Di
  | [],_,x1=>j1 x1
  | y1 :: ys1,i1,x1=>Hc (fun (x2 : List (ByteArray × Int)) =>
  Ev p_name p_a2 j1 ys1 (i1 + 1) x2) (fun j2 =>
  Hc (fun (x3 : List (ByteArray × Int)) =>
  j2 x3) (fun j3 =>
  if (((decide (y1.Who = p_name)) && (decide (0 < y1.Time))) && (decide (0 < (Eg p_a2 y1.Race)))) then
  Option.bind (Fv p_a2 y1.Race y1.Time) (fun r1 =>
  j3 (Fz x1 y1.Race (Rt (Gp x1 y1.Race 0) r1)))
  else
  j3 x1))
def Ff (j4 : (List Int) → Option Di) : List (ByteArray × Int) → (List Int) → Option Di
  | [],x4=>j4 x4
  | y2 :: ys2,x4=>Option.bind (α:=(List Int)) (
  Chk (Rh x4.length) (
  some (x4 ++ [y2.2]))) (fun s=>Ff j4 ys2 s)
def Ew (j5 : Int → Option Di) : List Int → Nat → Int → Option Di
  | [],_,x5=>j5 x5
  | y3 :: ys3,i3,x5=>Ew j5 ys3 (i3 + 1) (W (x5 + y3))
def Il (p_name : ByteArray) (p_a1 : List Dm) (p_a2 : List Dw) (p_a3 : Int) : Option Di :=
  Hc (fun (x1 : List (ByteArray × Int)) =>
  Hc (fun (x4 : List Int) =>
  Option.bind (Lf x4) (fun r2 =>
  Option.bind (Jz r2) (fun r3 =>
  Chk (Pr 0 (On p_a3 (r3.length : Int)) r3.length) (
  Hc (fun (x5 : Int) =>
  some (Di.mk x5 1)) (fun j5 =>
  Ew j5 (cut r3 0 (On p_a3 (r3.length : Int))) 0 0))))) (fun j4 =>
  Ul x1 (fun p=>Ff j4 p ([] : List Int)))) (fun j1 =>
  Ev p_name p_a2 j1 p_a1 0 ([] : List (ByteArray × Int)))
def Du (p_of_0 : List Dm) (p_of_1 : List Dw) (p_of_2 : Int) (j1 : (List De) → Option (List De)) : List ByteArray → Nat → (List De) → Option (List De)
  | [],_,x1=>j1 x1
  | y1 :: ys1,i1,x1=>Option.bind (Il y1 p_of_0 p_of_1 p_of_2) (fun r3 =>
  Chk (Rh x1.length) (
  Du p_of_0 p_of_1 p_of_2 j1 ys1 (i1 + 1) (x1 ++ [(De.mk y1 r3)])))
def Hb (p_names : List ByteArray) (p_of_0 : List Dm) (p_of_1 : List Dw) (p_of_2 : Int) : Option (List De) :=
  Option.bind (Lb p_names) (fun r1 =>
  Option.bind (Jc r1) (fun r2 =>
  Hc (fun (x1 : List De) =>
  some x1) (fun j1 =>
  Du p_of_0 p_of_1 p_of_2 j1 r2 0 ([] : List De))))
def Fm (j1 : (List ByteArray) → Option (List De)) : List Dm → Nat → (List ByteArray) → Option (List De)
  | [],_,x1=>j1 x1
  | y1 :: ys1,i1,x1=>Chk (Rh x1.length) (
  Fm j1 ys1 (i1 + 1) (x1 ++ [y1.Who]))
def It (p_l : List Dw) (p_r : List Dm) (p_many : Int) : Option (List De) :=
  Hc (fun (x1 : List ByteArray) =>
  Option.bind (Hb x1 p_r p_l p_many) (fun r1 =>
  some r1)) (fun j1 =>
  Fm j1 p_r 0 ([] : List ByteArray))
def Gf (p_s2 : List De) (j1 : Option Bool) : List De → Nat → Option Bool
  | [],_=>j1
  | y1 :: ys1,i1=>Chk (inB (i1 : Int) p_s2.length) (
  if !decide (y1 = (De.mk ((nth p_s2 (i1 : Int)).Key) ((nth p_s2 (i1 : Int)).Points))) then
  some false
  else
  Gf p_s2 j1 ys1 (i1 + 1))
def Ka (p_s1 : List De) (p_s2 : List De) : Option Bool :=
  if !decide ((p_s1.length : Int) = (p_s2.length : Int)) then
  some false
  else
  Hc (some true) (fun j1 =>
  Gf p_s2 j1 p_s1 0)
def Lv : Option Bool :=
  Option.bind (Lg [(Dw.mk k_r 3000)] k_r 6000) (fun r1 =>
  some ((decide (r1.2 = 0)) && (decide (r1.1 = 125))))
def Ja (p_l : List Int) : Option Bool :=
  Option.bind (Mr p_l 0) (fun r1 =>
  Option.bind (Jt p_l r1.2 [Kz,Mb,Rj]) (fun r2 =>
  Option.bind (Jf p_l r2.2 [1,2,1999,2000,3000,4567,360000,0,360001]) (fun r3 =>
  Option.bind (Jf p_l r3.2 [1,2,3,100,0,101]) (fun r4 =>
  Option.bind (Jf p_l r4.2 [1,125,999,1000,1001,1000000,0,1000001]) (fun r5 =>
  Option.bind (Ms p_l r5.2) (fun r6 =>
  Option.bind (Lg r1.1 r2.1 r3.1) (fun r7 =>
  Option.bind (Ls r1.1 r2.1 r5.1) (fun r8 =>
  Option.bind (Je r1.1 r6.1 r4.1) (fun r9 =>
  Option.bind (Ik r1.1) (fun r10 =>
  Option.bind (Ik r1.1) (fun r11 =>
  Option.bind (Jp r6.1) (fun r12 =>
  Hc (fun (x1 : Int) =>
  Hc (fun (x2 : Int) (x3 : Bool) =>
  Hc (fun (x4 : List De) =>
  Option.bind (Gk r1.1) (fun r16 =>
  Option.bind (Ik r1.1) (fun r17 =>
  Hc (fun (c1 : Bool) =>
  Hc (fun (c2 : Bool) =>
  some c2) (fun j5 =>
  if c1 then Option.bind (Lv) (fun r19 =>
  j5 (c1 && r19)) else j5 (c1 && true))) (fun j4 =>
  if (((((((decide (r16 = r17)) && (decide (r7.2 = (Dd [(Dd [r10,(Dc (!(An r1.1 r2.1)) 8)]),(Dc ((decide (r3.1 < 1)) || (decide (360000 < r3.1))) 1)])))) && (decide (r7.1 = x1))) && (decide (r8.2.2 = (Dd [(Dd [r10,(Dc (!(An r1.1 r2.1)) 8)]),(Dc ((decide (r5.1 < 1)) || (decide (1000000 < r5.1))) 1)])))) && (decide (r8.1 = x2))) && (decide (r8.2.1 = x3))) && (decide (r9.2 = (Dd [r11,r12,(Dc ((decide (r4.1 < 1)) || (decide (100 < r4.1))) 1)])))) then Option.bind (Ka r9.1 x4) (fun r18 =>
  j4 ((((((((decide (r16 = r17)) && (decide (r7.2 = (Dd [(Dd [r10,(Dc (!(An r1.1 r2.1)) 8)]),(Dc ((decide (r3.1 < 1)) || (decide (360000 < r3.1))) 1)])))) && (decide (r7.1 = x1))) && (decide (r8.2.2 = (Dd [(Dd [r10,(Dc (!(An r1.1 r2.1)) 8)]),(Dc ((decide (r5.1 < 1)) || (decide (1000000 < r5.1))) 1)])))) && (decide (r8.1 = x2))) && (decide (r8.2.1 = x3))) && (decide (r9.2 = (Dd [r11,r12,(Dc ((decide (r4.1 < 1)) || (decide (100 < r4.1))) 1)])))) && r18)) else j4 ((((((((decide (r16 = r17)) && (decide (r7.2 = (Dd [(Dd [r10,(Dc (!(An r1.1 r2.1)) 8)]),(Dc ((decide (r3.1 < 1)) || (decide (360000 < r3.1))) 1)])))) && (decide (r7.1 = x1))) && (decide (r8.2.2 = (Dd [(Dd [r10,(Dc (!(An r1.1 r2.1)) 8)]),(Dc ((decide (r5.1 < 1)) || (decide (1000000 < r5.1))) 1)])))) && (decide (r8.1 = x2))) && (decide (r8.2.1 = x3))) && (decide (r9.2 = (Dd [r11,r12,(Dc ((decide (r4.1 < 1)) || (decide (100 < r4.1))) 1)])))) && true))))) (fun j3 =>
  if decide ((Dd [r11,r12,(Dc ((decide (r4.1 < 1)) || (decide (100 < r4.1))) 1)]) = 0) then
  Option.bind (It r1.1 r6.1 r4.1) (fun r15 =>
  j3 r15)
  else
  j3 ([] : List De))) (fun j2 =>
  if decide ((Dd [(Dd [r10,(Dc (!(An r1.1 r2.1)) 8)]),(Dc ((decide (r5.1 < 1)) || (decide (1000000 < r5.1))) 1)]) = 0) then
  Option.bind (Jl r1.1 r2.1 r5.1) (fun r14 =>
  j2 r14.1 r14.2)
  else
  j2 0 false)) (fun j1 =>
  if decide ((Dd [(Dd [r10,(Dc (!(An r1.1 r2.1)) 8)]),(Dc ((decide (r3.1 < 1)) || (decide (360000 < r3.1))) 1)]) = 0) then
  Option.bind (Fv r1.1 r2.1 r3.1) (fun r13 =>
  j1 r13)
  else
  j1 0)))))))))))))
theorem twin_eqs : True:=by
  have h:=@Gt.eq_def; clear h; have h:=@Gt.eq_1; clear h; have h:=@Gt.eq_2; clear h
  have h:=@Hd.eq_def; clear h; have h:=@Hd.eq_1; clear h; have h:=@Hd.eq_2; clear h
  have h:=@Fa.eq_def; clear h; have h:=@Fa.eq_1; clear h; have h:=@Fa.eq_2; clear h
  have h:=@Gu.eq_def; clear h; have h:=@Gu.eq_1; clear h; have h:=@Gu.eq_2; clear h
  have h:=@Ib.eq_def; clear h; have h:=@Ib.eq_1; clear h; have h:=@Ib.eq_2; clear h
  have h:=@Hp.eq_def; clear h; have h:=@Hp.eq_1; clear h; have h:=@Hp.eq_2; clear h
  have h:=@Gn.eq_def; clear h; have h:=@Gn.eq_1; clear h; have h:=@Gn.eq_2; clear h
  have h:=@Ey.eq_def; clear h; have h:=@Ey.eq_1; clear h; have h:=@Ey.eq_2; clear h
  have h:=@Dj.eq_def; clear h; have h:=@Dj.eq_1; clear h; have h:=@Dj.eq_2; clear h
  have h:=@Dp.eq_def; clear h; have h:=@Dp.eq_1; clear h; have h:=@Dp.eq_2; clear h
  have h:=@Ed.eq_def; clear h; have h:=@Ed.eq_1; clear h; have h:=@Ed.eq_2; clear h
  have h:=@Ic.eq_def; clear h; have h:=@Ic.eq_1; clear h; have h:=@Ic.eq_2; clear h
  have h:=@Dk.eq_def; clear h; have h:=@Dk.eq_1; clear h; have h:=@Dk.eq_2; clear h
  have h:=@Dq.eq_def; clear h; have h:=@Dq.eq_1; clear h; have h:=@Dq.eq_2; clear h
  have h:=@Ee.eq_def; clear h; have h:=@Ee.eq_1; clear h; have h:=@Ee.eq_2; clear h
  have h:=@Gv.eq_def; clear h; have h:=@Gv.eq_1; clear h; have h:=@Gv.eq_2; clear h
  have h:=@Gw.eq_def; clear h; have h:=@Gw.eq_1; clear h; have h:=@Gw.eq_2; clear h
  have h:=@Gl.eq_def; clear h; have h:=@Gl.eq_1; clear h; have h:=@Gl.eq_2; clear h
  have h:=@Gm.eq_def; clear h; have h:=@Gm.eq_1; clear h; have h:=@Gm.eq_2; clear h
  have h:=@Gx.eq_def; clear h; have h:=@Gx.eq_1; clear h; have h:=@Gx.eq_2; clear h
  have h:=@Fq.eq_def; clear h; have h:=@Fq.eq_1; clear h; have h:=@Fq.eq_2; clear h
  have h:=@Dh.eq_def; clear h; have h:=@Dh.eq_1; clear h; have h:=@Dh.eq_2; clear h
  have h:=@Gc.eq_def; clear h; have h:=@Gc.eq_1; clear h; have h:=@Gc.eq_2; clear h
  have h:=@Ez.eq_def; clear h; have h:=@Ez.eq_1; clear h; have h:=@Ez.eq_2; clear h
  have h:=@Ge.eq_def; clear h; have h:=@Ge.eq_1; clear h; have h:=@Ge.eq_2; clear h
  have h:=@Ft.eq_def; clear h; have h:=@Ft.eq_1; clear h; have h:=@Ft.eq_2; clear h
  have h:=@Gq.eq_def; clear h; have h:=@Gq.eq_1; clear h; have h:=@Gq.eq_2; clear h
  have h:=@Fl.eq_def; clear h; have h:=@Fl.eq_1; clear h; have h:=@Fl.eq_2; clear h
  have h:=@Et.eq_def; clear h; have h:=@Et.eq_1; clear h; have h:=@Et.eq_2; clear h
  have h:=@Ef.eq_def; clear h; have h:=@Ef.eq_1; clear h; have h:=@Ef.eq_2; clear h
  have h:=@Ei.eq_def; clear h; have h:=@Ei.eq_1; clear h; have h:=@Ei.eq_2; clear h
  have h:=@Fd.eq_def; clear h; have h:=@Fd.eq_1; clear h; have h:=@Fd.eq_2; clear h
  have h:=@Fu.eq_def; clear h; have h:=@Fu.eq_1; clear h; have h:=@Fu.eq_2; clear h
  have h:=@Ev.eq_def; clear h; have h:=@Ev.eq_1; clear h; have h:=@Ev.eq_2; clear h
  have h:=@Ff.eq_def; clear h; have h:=@Ff.eq_1; clear h; have h:=@Ff.eq_2; clear h
  have h:=@Ew.eq_def; clear h; have h:=@Ew.eq_1; clear h; have h:=@Ew.eq_2; clear h
  have h:=@Du.eq_def; clear h; have h:=@Du.eq_1; clear h; have h:=@Du.eq_2; clear h
  have h:=@Fm.eq_def; clear h; have h:=@Fm.eq_1; clear h; have h:=@Fm.eq_2; clear h
  have h:=@Gf.eq_def; clear h; have h:=@Gf.eq_1; clear h; have h:=@Gf.eq_2; clear h
  trivial
end
end Go.Proofs.YthlanmcejeohmaaGreatDoor
