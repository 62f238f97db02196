/- The Go functions as plain Lean functions,by program. -/
import Derived.Test.YtdndpbbimcilpaaGreatDoorBase
namespace Go.Proofs.YtdndpbbimcilpaaGreatDoor
open Go
noncomputable section
structure KJ where
  L : List Int
  at_ : Int
  deriving DecidableEq,Inhabited
structure Dg where
  Key : ByteArray
  Metres : Int
  Stroke : Int
  Course : Int
  Legs : Int
  Sex : Int
  Young : Int
  Old : Int
  deriving DecidableEq,Inhabited
structure Pi where
  Points : List Int
  Relay : Int
  Most : Int
  deriving DecidableEq,Inhabited
structure Pj where
  Size : Int
  Many : Int
  Reserves : Int
  deriving DecidableEq,Inhabited
structure Ln where
  Races : List Dg
  Table : Pi
  Final : Pj
  deriving DecidableEq,Inhabited
structure An where
  Site : ByteArray
  No : Int
  At : Int
  Kind : Int
  Who : ByteArray
  Club : ByteArray
  Race : ByteArray
  Time : Int
  Fault : Int
  Of : ByteArray
  Other : Int
  deriving DecidableEq,Inhabited
structure El where
  Low : Int
  High : Int
  Least : Int
  Circles : Int
  deriving DecidableEq,Inhabited
structure Df where
  Who : ByteArray
  Heat : Int
  Lane : Int
  deriving DecidableEq,Inhabited
structure Ie where
  p_ : Ln
  deeds_ : List An
  deriving DecidableEq,Inhabited
structure Dp where
  site_ : ByteArray
  no_ : Int
  deriving DecidableEq,Inhabited
structure Dh where
  Who : ByteArray
  Time : Int
  deriving DecidableEq,Inhabited
structure Ka where
  Key : ByteArray
  Heats : Int
  Long : Int
  Gap : Int
  Break : Int
  deriving DecidableEq,Inhabited
structure Py where
  From : Int
  To : Int
  deriving DecidableEq,Inhabited
structure Ik where
  Item : ByteArray
  Heat : Int
  Time : Py
  deriving DecidableEq,Inhabited
structure Ju where
  Year : Int
  Month : Int
  Day : Int
  deriving DecidableEq,Inhabited
structure Od where
  Race : ByteArray
  Time : Int
  deriving DecidableEq,Inhabited
def Cx : ByteArray:=⟨#[]⟩
def Np : ByteArray:=⟨#[114,97]⟩
def Qi : ByteArray:=⟨#[114,98]⟩
def Sz : ByteArray:=⟨#[114,99]⟩
def Pa : ByteArray:=⟨#[115,97]⟩
def AJ : ByteArray:=⟨#[115,98]⟩
def Te : ByteArray:=⟨#[97,110,110]⟩
def Yo : ByteArray:=⟨#[98,101,97]⟩
def Yp : ByteArray:=⟨#[99,105,100]⟩
def Yq : ByteArray:=⟨#[100,97,110]⟩
def HU : ByteArray:=⟨#[114,122]⟩
def Sj : ByteArray:=⟨#[98,108,117,101]⟩
def CK : ByteArray:=⟨#[114,101,100]⟩
def k_A : ByteArray:=⟨#[65]⟩
def Il : ByteArray:=⟨#[97,98,99,100,101,102,103,104,105,106,107,108,109,110,111,112,113,114,115,116,117,118,119,120,121,122]⟩
def Gf : ByteArray:=⟨#[97,98,99,100,101,102,103,104,105,106,107,108,109,110,111,112,113,114,115,116,117,118,119,120,121,122,48,49,50,51,52,53,54,55,56,57,45,95]⟩
def Ml : ByteArray:=⟨#[0,1,2,2,3,3,3,3,4,4,4,4,4,4,4,4,5,5,5,5,5,5,5,5,5,5,5,5,5,5,5,5,6,6,6,6,6,6,6,6,6,6,6,6,6,6,6,6,6,6,6,6,6,6,6,6,6,6,6,6,6,6,6,6,7,7,7,7,7,7,7,7,7,7,7,7,7,7,7,7,7,7,7,7,7,7,7,7,7,7,7,7,7,7,7,7,7,7,7,7,7,7,7,7,7,7,7,7,7,7,7,7,7,7,7,7,7,7,7,7,7,7,7,7,7,7,7,7,8,8,8,8,8,8,8,8,8,8,8,8,8,8,8,8,8,8,8,8,8,8,8,8,8,8,8,8,8,8,8,8,8,8,8,8,8,8,8,8,8,8,8,8,8,8,8,8,8,8,8,8,8,8,8,8,8,8,8,8,8,8,8,8,8,8,8,8,8,8,8,8,8,8,8,8,8,8,8,8,8,8,8,8,8,8,8,8,8,8,8,8,8,8,8,8,8,8,8,8,8,8,8,8,8,8,8,8,8,8,8,8,8,8,8,8,8,8,8,8,8,8,8,8,8,8,8,8]⟩
def k_a : ByteArray:=⟨#[97]⟩
def k_r : ByteArray:=⟨#[114]⟩
def My (p_x : Int) (p_n : Int) : Option Int :=
  if decide (p_n < 1) then
  some 0
  else
  Chk (!decide (p_n = 0)) (
  Gd (fun (x1 : Int) =>
  some x1) (fun j1 =>
  if decide ((Int.tmod p_x p_n) < 0) then
  j1 (W ((Int.tmod p_x p_n) + p_n))
  else
  j1 (Int.tmod p_x p_n)))
def Mo (p_s_L : List Int) (p_s_at : Int) (p_n : Int) : Option (Int × Int) :=
  if decide ((p_s_L.length : Int) = 0) then
  Option.bind (My (W ((W (p_s_at + 1)) * 7919)) p_n) (fun r1 =>
  some (r1,W (p_s_at + 1)))
  else
  Chk (!decide ((p_s_L.length : Int) = 0)) (
  Chk (!decide ((p_s_L.length : Int) = 0)) (
  Chk (inB (Int.tmod (W ((W (p_s_at + 1)) - 1)) (p_s_L.length : Int)) p_s_L.length) (
  Option.bind (My (nth p_s_L (Int.tmod (W ((W (p_s_at + 1)) - 1)) (p_s_L.length : Int))) 1073741824) (fun r2 =>
  Option.bind (My (W (r2 + (W ((W (Int.tdiv (W ((W (p_s_at + 1)) - 1)) (p_s_L.length : Int))) * (W (7919 + (Int.tmod (W ((W (p_s_at + 1)) - 1)) (p_s_L.length : Int)))))))) p_n) (fun r3 =>
  some (r3,W (p_s_at + 1)))))))
def Ot (p_s_L : List Int) (p_s_at : Int) (p_n : Int) : Option (Bool × Int) :=
  Option.bind (Mo p_s_L p_s_at p_n) (fun r1 =>
  some (decide (r1.1 = 0),r1.2))
def Hq (p_s_L : List Int) (p_s_at : Int) (p_l : List Int) : Option (Int × Int) :=
  Option.bind (Mo p_s_L p_s_at (p_l.length : Int)) (fun r1 =>
  Chk (inB r1.1 p_l.length) (
  some ((nth p_l r1.1),r1.2)))
def Pb (p_s_L : List Int) (p_s_at : Int) (p_key : ByteArray) : Option (Dg × Int) :=
  Option.bind (Hq p_s_L p_s_at [50,100,200]) (fun r1 =>
  Option.bind (Hq p_s_L r1.2 [1,2,3,4]) (fun r2 =>
  Option.bind (Hq p_s_L r2.2 [25,50]) (fun r3 =>
  Option.bind (Hq p_s_L r3.2 [1,1,1,4]) (fun r4 =>
  Option.bind (Hq p_s_L r4.2 [0,1,2]) (fun r5 =>
  Option.bind (Hq p_s_L r5.2 [0,0,5,10]) (fun r6 =>
  Option.bind (Hq p_s_L r6.2 [0,5,90]) (fun r7 =>
  some ((Dg.mk p_key r1.1 r2.1 r3.1 r4.1 r5.1 r6.1 (W (r6.1 + r7.1))),r7.2))))))))
def Ih (p_s_L : List Int) (j1 : (List Dg) → Int → Option ((List Dg) × Int)) : List ByteArray → Nat → (List Dg) → Int → Option ((List Dg) × Int)
  | [],_,x1,x2=>j1 x1 x2
  | y1 :: ys1,i1,x1,x2=>Gd (fun (x3 : List Dg) (x4 : Int) =>
  Ih p_s_L j1 ys1 (i1 + 1) x3 x4) (fun j2 =>
  Option.bind (Ot p_s_L x2 6) (fun r1 =>
  Gd (fun (x5 : List Dg) (x6 : Int) =>
  j2 x5 x6) (fun j3 =>
  if !r1.1 then
  Option.bind (Pb p_s_L r1.2 y1) (fun r2 =>
  Chk (Ti x1.length) (
  j3 (x1 ++ [r2.1]) r2.2))
  else
  j3 x1 r1.2)))
def Pz (p_s_L : List Int) (p_s_at : Int) : Option ((List Dg) × Int) :=
  Gd (fun (x1 : List Dg) (x2 : Int) =>
  some (x1,x2)) (fun j1 =>
  Ih p_s_L j1 ([Np,Qi,Sz] : List ByteArray) 0 ([] : List Dg) p_s_at)
def Kq (p_s_L : List Int) (p_s_at : Int) (p_low : Int) (p_high : Int) : Option (Int × Int) :=
  if decide (p_high < p_low) then
  some (p_low,p_s_at)
  else
  Option.bind (Mo p_s_L p_s_at (W ((W (p_high - p_low)) + 1))) (fun r1 =>
  some (W (p_low + r1.1),r1.2))
def Hu (r4 : Int × Int) (p_s_L : List Int) (j1 : (List Int) → Int → Option (Pi × Int)) : Nat → (List Int) → Int → Int → Int → Option (Pi × Int)
  | 0,_,_,_,_=>none
  | m1 + 1,x1,x2,x3,x4=>if decide (x4 < r4.1) then
  Chk (Ti x1.length) (
  Option.bind (Hq p_s_L x2 [0,1,2,3]) (fun r5 =>
  Hu r4 p_s_L j1 m1 (x1 ++ [x3]) r5.2 (Yc 0 (W (x3 - r5.1))) (W (x4 + 1))))
  else
  j1 x1 x2
def Nq (p_s_L : List Int) (p_s_at : Int) : Option (Pi × Int) :=
  Option.bind (Hq p_s_L p_s_at [1,2]) (fun r1 =>
  Option.bind (Hq p_s_L r1.2 [0,0,1,2]) (fun r2 =>
  Option.bind (Hq p_s_L r2.2 [10,9,7,5]) (fun r3 =>
  Option.bind (Kq p_s_L r3.2 0 5) (fun r4 =>
  Gd (fun (x1 : List Int) (x2 : Int) =>
  some ((Pi.mk x1 r1.1 r2.1),x2)) (fun j1 =>
  Hu r4 p_s_L j1 ((r4.1 - 0).toNat + 2) ([] : List Int) r4.2 r3.1 0)))))
def Hc (j1 : (List Dg) → Option (List Dg)) : Nat → (List Dg) → Int → Int → Option (List Dg)
  | 0,_,_,_=>none
  | m1 + 1,x1,x2,x3=>if decide (x2 < x3) then
  Chk (inB x3 x1.length) (
  Chk (inB x2 x1.length) (
  Chk (inB x2 x1.length) (
  Chk (inB x3 (x1.set x2.toNat (nth x1 x3)).length) (
  Hc j1 m1 ((x1.set x2.toNat (nth x1 x3)).set x3.toNat (nth x1 x2)) (W (x2 + 1)) (W (x3 - 1))))))
  else
  j1 x1
def Mj (p_s : List Dg) : Option (List Dg) :=
  Gd (fun (x1 : List Dg) =>
  some x1) (fun j1 =>
  Hc j1 (((W ((p_s.length : Int) - 1)) - 0).toNat + 2) p_s 0 (W ((p_s.length : Int) - 1)))
def Ol (p_s_L : List Int) (p_s_at : Int) : Option (Ln × Int) :=
  Option.bind (Pz p_s_L p_s_at) (fun r1 =>
  Option.bind (Nq p_s_L r1.2) (fun r2 =>
  Option.bind (Kq p_s_L r2.2 1 3) (fun r3 =>
  Option.bind (Kq p_s_L r3.2 1 2) (fun r4 =>
  Option.bind (Kq p_s_L r4.2 0 2) (fun r5 =>
  Option.bind (Mj r1.1) (fun r6 =>
  some ((Ln.mk r6 r2.1 (Pj.mk r3.1 r4.1 r5.1)),r5.2)))))))
def Kw (p_s_L : List Int) (p_s_at : Int) (p_l : List ByteArray) : Option (ByteArray × Int) :=
  Option.bind (Mo p_s_L p_s_at (p_l.length : Int)) (fun r1 =>
  Chk (inB r1.1 p_l.length) (
  some ((nth p_l r1.1),r1.2)))
def Ou (p_s_L : List Int) (p_s_at : Int) (p_low : Int) (p_high : Int) : Option (Int × Int) :=
  Option.bind (Ot p_s_L p_s_at 12) (fun r1 =>
  if r1.1 then
  Option.bind (Hq p_s_L r1.2 [W (p_low - 1),W (p_high + 1),p_low,p_high,(-1099511627776),1099511627776]) (fun r2 =>
  some (r2.1,r2.2))
  else
  Option.bind (Kq p_s_L r1.2 p_low p_high) (fun r3 =>
  some (r3.1,r3.2)))
def Qj (p_n : Int) : Int :=
  if decide (p_n < 0) then
  (-1)
  else
  if decide (0 < p_n) then
  1
  else
  0
def Kc (s t : ByteArray) : Int:=Lib.compareBytes s.data.toList t.data.toList
def Hp (p_a : An) (p_b : An) : Int :=
  if !decide (p_a.At = p_b.At) then
  (Qj (W (p_a.At - p_b.At)))
  else
  if !decide (p_a.Site = p_b.Site) then
  (Kc p_a.Site p_b.Site)
  else
  (Qj (W (p_a.No - p_b.No)))
def Di (p_a : Int) (j2 : (List An) → Option (List An)) : Nat → (List An) → Int → Option (List An)
  | 0,_,_=>none
  | m2 + 1,x3,x4=>Gd (fun (x5 : Bool) =>
  if x5 then
  Chk (inB (W (x4 - 1)) x3.length) (
  Chk (inB x4 x3.length) (
  Chk (inB x4 x3.length) (
  Chk (inB (W (x4 - 1)) (x3.set x4.toNat (nth x3 (W (x4 - 1)))).length) (
  Di p_a j2 m2 ((x3.set x4.toNat (nth x3 (W (x4 - 1)))).set ((W (x4 - 1)).toNat) (nth x3 x4)) (W (x4 - 1))))))
  else
  j2 x3) (fun j3 =>
  if decide (p_a < x4) then
  Chk (inB x4 x3.length) (
  Chk (inB (W (x4 - 1)) x3.length) (
  j3 (decide ((Hp (nth x3 x4) (nth x3 (W (x4 - 1)))) < 0))))
  else
  j3 false)
def Du (p_b : Int) (p_a : Int) (j1 : (List An) → Option (List An)) : Nat → (List An) → Int → Option (List An)
  | 0,_,_=>none
  | m1 + 1,x1,x2=>if decide (x2 < p_b) then
  Gd (fun (x3 : List An) =>
  Du p_b p_a j1 m1 x3 (W (x2 + 1))) (fun j2 =>
  Di p_a j2 ((x2 - p_a).toNat + 2) x1 x2)
  else
  j1 x1
def Fh (p_data : List An) (p_a : Int) (p_b : Int) : Option (List An) :=
  Gd (fun (x1 : List An) =>
  some x1) (fun j1 =>
  Du p_b p_a j1 ((p_b - (W (p_a + 1))).toNat + 2) p_data (W (p_a + 1)))
def Eg (p_n : Int) (j1 : (List An) → Int → Option (List An)) : Nat → (List An) → Int → Int → Option (List An)
  | 0,_,_,_=>none
  | m1 + 1,x1,x2,x3=>if decide (x3 ≤ p_n) then
  Option.bind (Fh x1 x2 x3) (fun r1 =>
  Eg p_n j1 m1 r1 x3 (W (x3 + 20)))
  else
  j1 x1 x2
def Ez (p_n : Int) (j3 : Int → Option (List An)) : Nat → Int → Int → Option (List An)
  | 0,_,_=>none
  | _ + 1,x5,x6=>if decide (x6 ≤ p_n) then
  none
  else
  j3 x5
def Eh (p_n : Int) (j2 : Option (List An)) : Nat → Int → Option (List An)
  | 0,_=>none
  | m2 + 1,x4=>if decide (x4 < p_n) then
  Gd (fun (x5 : Int) =>
  if decide ((W (x5 + x4)) < p_n) then
  none
  else
  Eh p_n j2 m2 (W (x4 * 2))) (fun j3 =>
  Ez p_n j3 ((p_n - (W (2 * x4))).toNat + 2) 0 (W (2 * x4)))
  else
  j2
def Hm (p_data : List An) (p_n : Int) : Option (List An) :=
  Gd (fun (x1 : List An) (x2 : Int) =>
  Option.bind (Fh x1 x2 p_n) (fun r2 =>
  Gd (some r2) (fun j2 =>
  Eh p_n j2 ((p_n - 20).toNat + 2) 20))) (fun j1 =>
  Eg p_n j1 ((p_n - 20).toNat + 2) p_data 0 20)
def Ga (p_x : List An) : Option (List An) :=
  Option.bind (Hm p_x (p_x.length : Int)) (fun r1 =>
  some r1)
def Kd (p_many : Int) (p_s_L : List Int) (j1 : (List (ByteArray × Int)) → (List An) → Int → Option ((List An) × Int)) : Nat → (List (ByteArray × Int)) → (List An) → Int → Int → Int → Option ((List An) × Int)
  | 0,_,_,_,_,_=>none
  | m1 + 1,x1,x2,x3,x4,x5=>if decide (x5 < p_many) then
  Option.bind (Hq p_s_L x3 [0,1,5]) (fun r1 =>
  Option.bind (Kw p_s_L r1.2 [Pa,Pa,AJ]) (fun r2 =>
  Option.bind (Hq p_s_L r2.2 [1,1,1,3,3,3,2,4]) (fun r3 =>
  Gd (fun (x6 : ByteArray) (x7 : ByteArray) (x8 : Int) =>
  Gd (fun (x9 : ByteArray) (x10 : Int) (x11 : Int) (x12 : ByteArray) (x13 : Int) (x14 : Int) =>
  Option.bind (Ot p_s_L x14 100) (fun r12 =>
  Gd (fun (x29 : ByteArray) (x30 : Int) (x31 : Int) (x32 : ByteArray) (x33 : ByteArray) (x34 : ByteArray) (x35 : Int) (x36 : Int) (x37 : Int) (x38 : Int) =>
  Chk (Ti x2.length) (
  Kd p_many p_s_L j1 m1 (Fz x1 r2.1 (W ((Ek x1 r2.1 0) + 1))) (x2 ++ [(An.mk x29 x30 (W (x4 + r1.1)) x31 x32 x33 x34 x35 x36 x12 x37)]) x38 (W (x4 + r1.1)) (W (x5 + 1)))) (fun j7 =>
  if r12.1 then
  Option.bind (Mo p_s_L r12.2 4) (fun r13 =>
  Gd (fun (x39 : ByteArray) (x40 : Int) (x41 : Int) (x42 : ByteArray) (x43 : ByteArray) (x44 : ByteArray) (x45 : Int) (x46 : Int) (x47 : Int) (x48 : Int) =>
  j7 x39 x40 x41 x42 x43 x44 x45 x46 x47 x48) (fun j8 =>
  Gd (fun (x49 : ByteArray) (x50 : Int) (x51 : Int) (x52 : ByteArray) (x53 : ByteArray) (x54 : ByteArray) (x55 : Int) (x56 : Int) (x57 : Int) (x58 : Int) =>
  j8 x49 x50 x51 x52 x53 x54 x55 x56 x57 x58) (fun j9 =>
  if decide (r13.1 = 0) then
  Option.bind (Kw p_s_L r13.2 [Cx,Pa]) (fun r14 =>
  Option.bind (Ou p_s_L r14.2 1 9) (fun r15 =>
  j9 r14.1 r15.1 r3.1 x6 x9 x7 x10 x11 x13 r15.2))
  else
  Gd (fun (x59 : Int) (x60 : ByteArray) (x61 : ByteArray) (x62 : ByteArray) (x63 : Int) (x64 : Int) (x65 : Int) (x66 : Int) =>
  j9 r2.1 (Ek (Fz x1 r2.1 (W ((Ek x1 r2.1 0) + 1))) r2.1 0) x59 x60 x61 x62 x63 x64 x65 x66) (fun j10 =>
  if decide (r13.1 = 1) then
  Option.bind (Ou p_s_L r13.2 1 4) (fun r16 =>
  j10 r16.1 x6 x9 x7 x10 x11 x13 r16.2)
  else
  Gd (fun (x67 : ByteArray) (x68 : ByteArray) (x69 : ByteArray) (x70 : Int) (x71 : Int) (x72 : Int) (x73 : Int) =>
  j10 r3.1 x67 x68 x69 x70 x71 x72 x73) (fun j11 =>
  if decide (r13.1 = 2) then
  Option.bind (Kw p_s_L r13.2 [Cx,Te]) (fun r17 =>
  Option.bind (Kw p_s_L r17.2 [k_A,Sj]) (fun r18 =>
  Option.bind (Kw p_s_L r18.2 [Cx,Np]) (fun r19 =>
  j11 r17.1 r18.1 r19.1 x10 x11 x13 r19.2)))
  else
  Option.bind (Ou p_s_L r13.2 0 360000) (fun r20 =>
  Option.bind (Ou p_s_L r20.2 0 8) (fun r21 =>
  Option.bind (Ou p_s_L r21.2 0 5) (fun r22 =>
  j11 x6 x9 x7 r20.1 r21.1 r22.1 r22.2))))))))
  else
  j7 r2.1 (Ek (Fz x1 r2.1 (W ((Ek x1 r2.1 0) + 1))) r2.1 0) r3.1 x6 x9 x7 x10 x11 x13 r12.2))) (fun j3 =>
  Gd (fun (x15 : ByteArray) (x16 : Int) (x17 : Int) (x18 : ByteArray) (x19 : Int) (x20 : Int) =>
  j3 x15 x16 x17 x18 x19 x20) (fun j4 =>
  if decide (r3.1 = 1) then
  Option.bind (Kw p_s_L x8 [Sj,CK,Cx]) (fun r6 =>
  Option.bind (Hq p_s_L r6.2 [0,5900,6000,7000]) (fun r7 =>
  j4 r6.1 r7.1 0 Cx 0 r7.2))
  else
  Gd (fun (x21 : Int) (x22 : Int) (x23 : ByteArray) (x24 : Int) (x25 : Int) =>
  j4 Cx x21 x22 x23 x24 x25) (fun j5 =>
  if decide (r3.1 = 3) then
  Option.bind (Hq p_s_L x8 [0,5900,5900,6000,6100]) (fun r8 =>
  Option.bind (Hq p_s_L r8.2 [0,0,0,0,3]) (fun r9 =>
  j5 r8.1 r9.1 Cx 0 r9.2))
  else
  Gd (fun (x26 : ByteArray) (x27 : Int) (x28 : Int) =>
  j5 0 0 x26 x27 x28) (fun j6 =>
  if decide (r3.1 = 4) then
  Option.bind (Kw p_s_L x8 [Pa,Pa,AJ]) (fun r10 =>
  Option.bind (Kq p_s_L r10.2 1 (Yc 1 (Ek (Fz x1 r2.1 (W ((Ek x1 r2.1 0) + 1))) Pa 0))) (fun r11 =>
  j6 r10.1 r11.1 r11.2))
  else
  j6 Cx 0 x8))))) (fun j2 =>
  if !decide (r3.1 = 4) then
  Option.bind (Kw p_s_L r3.2 [Te,Yo,Yp,Yq]) (fun r4 =>
  Option.bind (Kw p_s_L r4.2 [Np,Np,Qi,HU]) (fun r5 =>
  j2 r4.1 r5.1 r5.2))
  else
  j2 Cx Cx r3.2))))
  else
  j1 x1 x2 x3
def Ro (p_s_L : List Int) (p_s_at : Int) (p_many : Int) : Option ((List An) × Int) :=
  Gd (fun (x1 : List (ByteArray × Int)) (x2 : List An) (x3 : Int) =>
  Option.bind (Ga x2) (fun r23 =>
  some (r23,x3))) (fun j1 =>
  Kd p_many p_s_L j1 ((p_many - 0).toNat + 2) ([] : List (ByteArray × Int)) ([] : List An) p_s_at 0 0)
def Ig (p_n : Int) (p_low : Int) (p_high : Int) : Bool :=
  ((decide (p_low ≤ p_n)) && (decide (p_n ≤ p_high)))
def Pl (s : ByteArray) (c : Int) : Int:=Lib.indexByte s.data.toList c.toNat.toUInt8
def Jd (p_s : ByteArray) (p_some : ByteArray) (j1 : Option Bool) : Nat → Int → Option Bool
  | 0,_=>none
  | m1 + 1,x1=>if decide (x1 < (p_s.size : Int)) then
  Chk (inB x1 p_s.size) (
  if decide ((Pl p_some (Ub p_s x1)) < 0) then
  some false
  else
  Jd p_s p_some j1 m1 (W (x1 + 1)))
  else
  j1
def Pe (p_s : ByteArray) (p_some : ByteArray) : Option Bool :=
  Gd (some true) (fun j1 =>
  Jd p_s p_some j1 (((p_s.size : Int) - 0).toNat + 2) 0)
def Ls (p_s : ByteArray) : Option Bool :=
  Gd (fun (c1 : Bool) =>
  Gd (fun (c2 : Bool) =>
  some c2) (fun j2 =>
  if c1 then Option.bind (Pe p_s Gf) (fun r2 =>
  j2 (c1 && r2)) else j2 (c1 && true))) (fun j1 =>
  if (Ig (p_s.size : Int) 1 40) then Chk (Vo 0 1 p_s.size) (
  Option.bind (Pe (GD p_s 0 1) Il) (fun r1 =>
  j1 ((Ig (p_s.size : Int) 1 40) && r1))) else j1 ((Ig (p_s.size : Int) 1 40) && true))
def Mf (p_at : Int) : Bool :=
  (Ig p_at 0 345686399999)
def Mz (p_d : An) : Option Int :=
  Option.bind (Ls p_d.Site) (fun r1 =>
  if !r1 then
  some 5
  else
  if ((!(Ig p_d.No 1 1000000)) || (!(Mf p_d.At))) then
  some 1
  else
  if !(Ig p_d.Kind 1 4) then
  some 4
  else
  Gd (fun (x1 : ByteArray) (x2 : ByteArray) (x3 : ByteArray) (x4 : Int) =>
  Gd (fun (x5 : ByteArray) =>
  Gd (fun (x6 : Int) =>
  Gd (fun (x7 : Int) =>
  if !decide (p_d = (An.mk p_d.Site p_d.No p_d.At p_d.Kind x1 x5 x2 x6 x7 x3 x4)) then
  some 3
  else
  some 0) (fun j7 =>
  if decide (p_d.Kind = 3) then
  if !(Ig p_d.Fault 0 8) then
  some 1
  else
  j7 p_d.Fault
  else
  j7 0)) (fun j6 =>
  if ((decide (p_d.Kind = 1)) || (decide (p_d.Kind = 3))) then
  if !(Ig p_d.Time 0 360000) then
  some 1
  else
  j6 p_d.Time
  else
  j6 0)) (fun j5 =>
  if decide (p_d.Kind = 1) then
  j5 p_d.Club
  else
  j5 Cx)) (fun j1 =>
  if decide (p_d.Kind = 4) then
  Option.bind (Ls p_d.Of) (fun r2 =>
  if !r2 then
  some 5
  else
  if !(Ig p_d.Other 1 1000000) then
  some 1
  else
  j1 Cx Cx p_d.Of p_d.Other)
  else
  Option.bind (Ls p_d.Who) (fun r3 =>
  Gd (fun (c1 : Bool) =>
  Gd (fun (c2 : Bool) =>
  if c2 then
  some 5
  else
  j1 p_d.Who p_d.Race Cx 0) (fun j3 =>
  if c1 then j3 (c1 || true) else Gd (fun (c3 : Bool) =>
  j3 (c1 || c3)) (fun j4 =>
  if ((decide (p_d.Kind = 1)) && (!decide (p_d.Club = Cx))) then Option.bind (Ls p_d.Club) (fun r5 =>
  j4 (((decide (p_d.Kind = 1)) && (!decide (p_d.Club = Cx))) && (!r5))) else j4 (((decide (p_d.Kind = 1)) && (!decide (p_d.Club = Cx))) && true)))) (fun j2 =>
  if (!r3) then j2 ((!r3) || true) else Option.bind (Ls p_d.Race) (fun r4 =>
  j2 ((!r3) || (!r4)))))))
def Qp (p_a : An) (p_b : An) : Bool :=
  ((decide (p_a.Site = p_b.Site)) && (decide (p_a.No = p_b.No)))
def Lg (p_o : An) (p_a1 : An) : Bool :=
  (Qp p_o p_a1)
def Dq (p_f_0 : An) (j1 : Int) : List An → Nat → Int
  | [],_=>j1
  | y1 :: ys1,i1=>if (Lg y1 p_f_0) then
  (i1 : Int)
  else
  Dq p_f_0 j1 ys1 (i1 + 1)
def Je (p_s : List An) (p_f_0 : An) : Int :=
  Gd ((-1)) (fun j1 =>
  Dq p_f_0 j1 p_s 0)
def Ha (p_s : List An) (p_f_0 : An) : Bool :=
  decide (0 ≤ (Je p_s p_f_0))
def Gg (p_l : List An) (j1 : Option Int) : List An → Nat → Option Int
  | [],_=>j1
  | y1 :: ys1,i1=>Option.bind (Mz y1) (fun r1 =>
  if !decide (r1 = 0) then
  some r1
  else
  Gd (fun (x1 : Bool) =>
  if x1 then
  some 7
  else
  Gg p_l j1 ys1 (i1 + 1)) (fun j2 =>
  if decide (0 < (i1 : Int)) then
  Chk (inB (W ((i1 : Int) - 1)) p_l.length) (
  j2 (decide (0 ≤ (Hp (nth p_l (W ((i1 : Int) - 1))) y1))))
  else
  j2 false))
def Gv (p_l : List An) (j3 : Option Int) : List An → Nat → Option Int
  | [],_=>j3
  | y2 :: ys2,i2=>Chk (Vo 0 (i2 : Int) p_l.length) (
  if (Ha (cut p_l 0 (i2 : Int)) y2) then
  some 6
  else
  Gv p_l j3 ys2 (i2 + 1))
def Mk (p_l : List An) : Option Int :=
  if decide (2000 < (p_l.length : Int)) then
  some 2
  else
  Gd (Gd (some 0) (fun j3 =>
  Gv p_l j3 p_l 0)) (fun j1 =>
  Gg p_l j1 p_l 0)
def Hv (p_s_L : List Int) (p_many : Int) (j1 : Int → Option ((List An) × Int)) : Nat → Int → Int → Option ((List An) × Int)
  | 0,_,_=>none
  | m1 + 1,x1,x2=>if decide (x2 < 5) then
  Option.bind (Ro p_s_L x1 p_many) (fun r1 =>
  Option.bind (Mk r1.1) (fun r2 =>
  if decide (r2 = 0) then
  some (r1.1,r1.2)
  else
  Hv p_s_L p_many j1 m1 r1.2 (W (x2 + 1))))
  else
  j1 x1
def Nr (p_s_L : List Int) (p_s_at : Int) (p_many : Int) : Option ((List An) × Int) :=
  Gd (fun (x1 : Int) =>
  some (([] : List An),x1)) (fun j1 =>
  Hv p_s_L p_many j1 7 p_s_at 0)
def Rp (s c : ByteArray) : Option ByteArray :=
  Chk (decide (s.size ≤ 9223372036854775807)) (Chk (decide (c.size < 4294967281)) (Chk (c.data.toList.all fun b=>decide (b.toNat < 128)) (some ⟨(Lib.trimS s.data.toList c.data.toList).toArray⟩)))
def Gn (p_s : ByteArray) : Option Bool :=
  Gd (fun (c1 : Bool) =>
  Gd (fun (c2 : Bool) =>
  Gd (fun (c3 : Bool) =>
  some c3) (fun j3 =>
  if c2 then Option.bind (Rp p_s Gf) (fun r1 =>
  j3 (c2 && (decide (r1 = Cx)))) else j3 (c2 && true))) (fun j2 =>
  if c1 then Chk (inB 0 p_s.size) (
  j2 (c1 && (decide ((Ub p_s 0) ≤ 122)))) else j2 (c1 && true))) (fun j1 =>
  if ((decide (1 ≤ (p_s.size : Int))) && (decide ((p_s.size : Int) ≤ 40))) then Chk (inB 0 p_s.size) (
  j1 (((decide (1 ≤ (p_s.size : Int))) && (decide ((p_s.size : Int) ≤ 40))) && (decide (97 ≤ (Ub p_s 0))))) else j1 (((decide (1 ≤ (p_s.size : Int))) && (decide ((p_s.size : Int) ≤ 40))) && true))
def Cy (p_n : Int) (p_low : Int) (p_high : Int) : Bool :=
  ((decide (p_low ≤ p_n)) && (decide (p_n ≤ p_high)))
def Kx (p_r : Dg) : Option Int :=
  Option.bind (Gn p_r.Key) (fun r1 =>
  if !r1 then
  some 5
  else
  if ((!(Cy p_r.Stroke 1 5)) || (!(Cy p_r.Sex 0 2))) then
  some 4
  else
  if (((((((!decide (p_r.Course = 25)) && (!decide (p_r.Course = 50))) || (!(Cy p_r.Legs 1 4))) || (!(Cy p_r.Metres 25 1500))) || (decide (p_r.Young < 0))) || (decide (p_r.Old < p_r.Young))) || (decide (120 < p_r.Old))) then
  some 1
  else
  Chk (!decide (p_r.Course = 0)) (
  if !decide ((Int.tmod p_r.Metres p_r.Course) = 0) then
  some 3
  else
  Gd (fun (c1 : Bool) =>
  Gd (fun (x1 : Bool) =>
  if x1 then
  some 16
  else
  some 0) (fun j2 =>
  if c1 then
  j2 c1
  else
  j2 (((decide (p_r.Stroke = 5)) && (decide (1 < p_r.Legs))) && (!decide (p_r.Legs = 4))))) (fun j1 =>
  if ((decide (p_r.Stroke = 5)) && (decide (p_r.Legs = 1))) then Chk (!decide ((W (4 * p_r.Course)) = 0)) (
  j1 (((decide (p_r.Stroke = 5)) && (decide (p_r.Legs = 1))) && (!decide ((Int.tmod p_r.Metres (W (4 * p_r.Course))) = 0)))) else j1 (((decide (p_r.Stroke = 5)) && (decide (p_r.Legs = 1))) && true))))
def Pm (p_x : Dg) (p_a1 : Dg) : Bool :=
  decide (p_x.Key = p_a1.Key)
def Ei (p_f_0 : Dg) (j1 : Int) : List Dg → Nat → Int
  | [],_=>j1
  | y1 :: ys1,i1=>if (Pm y1 p_f_0) then
  (i1 : Int)
  else
  Ei p_f_0 j1 ys1 (i1 + 1)
def Ii (p_s : List Dg) (p_f_0 : Dg) : Int :=
  Gd ((-1)) (fun j1 =>
  Ei p_f_0 j1 p_s 0)
def Gw (p_s : List Dg) (p_f_0 : Dg) : Bool :=
  decide (0 ≤ (Ii p_s p_f_0))
def Hw (p_t : Pi) (j1 : Option Int) : List Int → Nat → Option Int
  | [],_=>j1
  | y1 :: ys1,i1=>if !(Cy y1 0 10000) then
  some 1
  else
  Gd (fun (c1 : Bool) =>
  if c1 then
  some 7
  else
  Hw p_t j1 ys1 (i1 + 1)) (fun j2 =>
  if (decide (0 < (i1 : Int))) then Chk (inB (W ((i1 : Int) - 1)) p_t.Points.length) (
  j2 ((decide (0 < (i1 : Int))) && (decide ((nth p_t.Points (W ((i1 : Int) - 1))) < y1)))) else j2 ((decide (0 < (i1 : Int))) && true))
def Mc (p_t : Pi) : Option Int :=
  if decide (40 < (p_t.Points.length : Int)) then
  some 2
  else
  Gd (if ((!(Cy p_t.Relay 1 10)) || (!(Cy p_t.Most 0 10))) then
  some 1
  else
  some 0) (fun j1 =>
  Hw p_t j1 p_t.Points 0)
def Nl (p_f : Pj) : Int :=
  if (((!(Cy p_f.Size 1 10)) || (!(Cy p_f.Many 1 5))) || (!(Cy p_f.Reserves 0 10))) then
  1
  else
  0
def Jg (p_p : Ln) (j1 : Option Int) : List Dg → Nat → Option Int
  | [],_=>j1
  | y1 :: ys1,i1=>Option.bind (Kx y1) (fun r1 =>
  if !decide (r1 = 0) then
  some r1
  else
  Chk (Vo 0 (i1 : Int) p_p.Races.length) (
  if (Gw (cut p_p.Races 0 (i1 : Int)) y1) then
  some 6
  else
  Jg p_p j1 ys1 (i1 + 1)))
def Om (p_p : Ln) : Option Int :=
  if decide (100 < (p_p.Races.length : Int)) then
  some 2
  else
  Gd (Option.bind (Mc p_p.Table) (fun r2 =>
  if !decide (r2 = 0) then
  some r2
  else
  some (Nl p_p.Final))) (fun j1 =>
  Jg p_p j1 p_p.Races 0)
def Kn (p_p : El) : Int :=
  if ((((decide (10 < p_p.High)) || (!(Cy p_p.Low 1 p_p.High))) || (!(Cy p_p.Least 1 (W ((W (p_p.High - p_p.Low)) + 1))))) || (!(Cy p_p.Circles 1 10))) then
  1
  else
  0
def Hg (p_n : Int) : Bool :=
  ((decide (0 ≤ p_n)) && (decide (p_n < 345686400000)))
def Na (p_x : An) : Option Int :=
  Option.bind (Gn p_x.Site) (fun r1 =>
  if !r1 then
  some 5
  else
  if ((!(Cy p_x.No 1 1000000)) || (!(Hg p_x.At))) then
  some 1
  else
  if !(Cy p_x.Kind 1 4) then
  some 4
  else
  Gd (fun (c1 : Bool) =>
  Gd (fun (x1 : Bool) =>
  if x1 then
  some 5
  else
  Gd (fun (x2 : Bool) =>
  if x2 then
  some 1
  else
  Gd (fun (c4 : Bool) =>
  if c4 then
  some 5
  else
  if ((decide (p_x.Kind = 4)) && (!(Cy p_x.Other 1 1000000))) then
  some 1
  else
  Gd (fun (x3 : ByteArray) (x4 : ByteArray) (x5 : ByteArray) (x6 : Int) (x7 : Int) (x8 : ByteArray) (x9 : Int) =>
  if !decide (p_x = (An.mk p_x.Site p_x.No p_x.At p_x.Kind x3 x4 x5 x6 x7 x8 x9)) then
  some 3
  else
  some 0) (fun j7 =>
  Gd (fun (x10 : ByteArray) (x11 : ByteArray) (x12 : ByteArray) (x13 : Int) (x14 : Int) (x15 : ByteArray) (x16 : Int) =>
  j7 x10 x11 x12 x13 x14 x15 x16) (fun j8 =>
  if decide (p_x.Kind = 1) then
  j8 p_x.Who p_x.Club p_x.Race p_x.Time 0 Cx 0
  else
  Gd (fun (x17 : ByteArray) (x18 : ByteArray) (x19 : Int) (x20 : Int) (x21 : ByteArray) (x22 : Int) =>
  j8 x17 Cx x18 x19 x20 x21 x22) (fun j9 =>
  if decide (p_x.Kind = 3) then
  j9 p_x.Who p_x.Race p_x.Time p_x.Fault Cx 0
  else
  Gd (fun (x23 : ByteArray) (x24 : ByteArray) (x25 : ByteArray) (x26 : Int) =>
  j9 x23 x24 0 0 x25 x26) (fun j10 =>
  if decide (p_x.Kind = 4) then
  j10 Cx Cx p_x.Of p_x.Other
  else
  j10 p_x.Who p_x.Race Cx 0))))) (fun j6 =>
  if (decide (p_x.Kind = 4)) then Option.bind (Gn p_x.Of) (fun r5 =>
  j6 ((decide (p_x.Kind = 4)) && (!r5))) else j6 ((decide (p_x.Kind = 4)) && true))) (fun j5 =>
  if (((decide (p_x.Kind = 1)) || (decide (p_x.Kind = 3))) && (!(Cy p_x.Time 0 360000))) then
  j5 (((decide (p_x.Kind = 1)) || (decide (p_x.Kind = 3))) && (!(Cy p_x.Time 0 360000)))
  else
  j5 ((decide (p_x.Kind = 3)) && (!(Cy p_x.Fault 0 8))))) (fun j3 =>
  if c1 then
  j3 c1
  else
  Gd (fun (c3 : Bool) =>
  j3 c3) (fun j4 =>
  if ((decide (p_x.Kind = 1)) && (!decide (p_x.Club = Cx))) then Option.bind (Gn p_x.Club) (fun r4 =>
  j4 (((decide (p_x.Kind = 1)) && (!decide (p_x.Club = Cx))) && (!r4))) else j4 (((decide (p_x.Kind = 1)) && (!decide (p_x.Club = Cx))) && true)))) (fun j1 =>
  if (!(decide (p_x.Kind = 4))) then Option.bind (Gn p_x.Who) (fun r2 =>
  Gd (fun (c2 : Bool) =>
  j1 ((!(decide (p_x.Kind = 4))) && c2)) (fun j2 =>
  if (!r2) then j2 ((!r2) || true) else Option.bind (Gn p_x.Race) (fun r3 =>
  j2 ((!r2) || (!r3))))) else j1 ((!(decide (p_x.Kind = 4))) && true)))
def Pf (p_x : Int) : Bool :=
  !decide (p_x = p_x)
def Fk (p_x : Int) (p_y : Int) : Int :=
  if (Pf p_x) then
  if (Pf p_y) then
  0
  else
  (-1)
  else
  if (Pf p_y) then
  1
  else
  if decide (p_x < p_y) then
  (-1)
  else
  if decide (p_y < p_x) then
  1
  else
  0
def Lt (j1 : Int) : List Int → Nat → Int
  | [],_=>j1
  | y1 :: ys1,i1=>if !decide (y1 = 0) then
  y1
  else
  Lt j1 ys1 (i1 + 1)
def Sk (p_vals : List Int) : Int :=
  Gd (0) (fun j1 =>
  Lt j1 p_vals 0)
def Kf (p_a : An) (p_b : An) : Int :=
  (Sk [(Fk p_a.At p_b.At),(Kc p_a.Site p_b.Site),(Fk p_a.No p_b.No)])
def Dw (p_x : An) : Dp :=
  (Dp.mk p_x.Site p_x.No)
def Gm (p_l : List An) (j1 : (List (Dp × Bool)) → Bool → Option Int) : List An → Nat → (List (Dp × Bool)) → Bool → Option Int
  | [],_,x1,x2=>j1 x1 x2
  | y1 :: ys1,i1,x1,x2=>Option.bind (Na y1) (fun r1 =>
  if !decide (r1 = 0) then
  some r1
  else
  Gd (fun (x3 : Bool) =>
  if x3 then
  some 7
  else
  Gm p_l j1 ys1 (i1 + 1) (Fz x1 (Dw y1) true) (x2 || (Ek x1 (Dw y1) false))) (fun j2 =>
  if decide (0 < (i1 : Int)) then
  Chk (inB (W ((i1 : Int) - 1)) p_l.length) (
  j2 (decide (0 ≤ (Kf (nth p_l (W ((i1 : Int) - 1))) y1))))
  else
  j2 false))
def Mg (p_l : List An) : Option Int :=
  if decide (2000 < (p_l.length : Int)) then
  some 2
  else
  Gd (fun (x1 : List (Dp × Bool)) (x2 : Bool) =>
  if x2 then
  some 6
  else
  some 0) (fun j1 =>
  Gm p_l j1 p_l 0 ([] : List (Dp × Bool)) false)
def Ho (j1 : (List Int) → Option (List Int)) : Nat → (List Int) → Int → Int → Option (List Int)
  | 0,_,_,_=>none
  | m1 + 1,x1,x2,x3=>if decide (x2 < x3) then
  Chk (inB x3 x1.length) (
  Chk (inB x2 x1.length) (
  Chk (inB x2 x1.length) (
  Chk (inB x3 (x1.set x2.toNat (nth x1 x3)).length) (
  Ho j1 m1 ((x1.set x2.toNat (nth x1 x3)).set x3.toNat (nth x1 x2)) (W (x2 + 1)) (W (x3 - 1))))))
  else
  j1 x1
def Lr (p_s : List Int) : Option (List Int) :=
  Gd (fun (x1 : List Int) =>
  some x1) (fun j1 =>
  Ho j1 (((W ((p_s.length : Int) - 1)) - 0).toNat + 2) p_s 0 (W ((p_s.length : Int) - 1)))
  /-- Which of the deeds count,from the last one on. -/
def Sl (l : List An) (at_ : Int) (i : Nat) (m : List (Dp × Bool)) : Bool:=decide (at_ < (nth l (i : Int)).At) || Ek m (Dw (nth l (i : Int))) false
def Im (l : List An) (at_ : Int) : List Nat → List (Dp × Bool) → List Int → Option (List Int)
  | [],_,x=>Lr x
  | i :: is,m,x=>if Sl l at_ i m then Im l at_ is m x else
    Chk (Ti x.length) (Im l at_ is (if decide ((nth l (i : Int)).Kind = 4) then Fz m (Dp.mk ((nth l (i : Int)).Of) ((nth l (i : Int)).Other)) true else m) (x ++ [(i : Int)]))
def Sn (l : List An) (at_ : Int) : Option (List Int):=Im l at_ (Ts l.length) [] []
def Jm (p_l : List An) (j1 : (List An) → Option (Option Ie)) : List Int → Nat → (List An) → Option (Option Ie)
  | [],_,x1=>j1 x1
  | y1 :: ys1,i1,x1=>Chk (inB y1 p_l.length) (
  Chk (Ti x1.length) (
  Jm p_l j1 ys1 (i1 + 1) (x1 ++ [(nth p_l y1)])))
def Rq (p_p : Ln) (p_l : List An) (p_at : Int) : Option (Option Ie) :=
  Option.bind (Sn p_l p_at) (fun r1 =>
  Gd (fun (x1 : List An) =>
  some (some (Ie.mk p_p x1))) (fun j1 =>
  Jm p_l j1 r1 0 ([] : List An)))
def Lu (j1 : Option ((Option Ie) × Int)) : List Int → Nat → Option ((Option Ie) × Int)
  | [],_=>j1
  | y1 :: ys1,i1=>if !(Hg y1) then
  some (none,1)
  else
  Lu j1 ys1 (i1 + 1)
def Ux (p_p : Ln) (p_l : List An) (p_at : List Int) : Option ((Option Ie) × Int) :=
  Option.bind (Om p_p) (fun r1 =>
  if !decide (r1 = 0) then
  some (none,r1)
  else
  Option.bind (Mg p_l) (fun r2 =>
  if !decide (r2 = 0) then
  some (none,r2)
  else
  Gd (Chk (inB (W ((p_at.length : Int) - 1)) p_at.length) (
  Option.bind (Rq p_p p_l (nth p_at (W ((p_at.length : Int) - 1)))) (fun r3 =>
  some (r3,0)))) (fun j1 =>
  Lu j1 p_at 0)))
def So (p_r : Dg) (p_a1 : ByteArray) : Bool :=
  decide (p_r.Key = p_a1)
def Er (p_f_0 : ByteArray) (j1 : Int) : List Dg → Nat → Int
  | [],_=>j1
  | y1 :: ys1,i1=>if (So y1 p_f_0) then
  (i1 : Int)
  else
  Er p_f_0 j1 ys1 (i1 + 1)
def Es (p_s : List Dg) (p_f_0 : ByteArray) : Int :=
  Gd ((-1)) (fun j1 =>
  Er p_f_0 j1 p_s 0)
def Yw (p_x : Int) : Option Int :=
  Gd (fun (x1 : Int) (x2 : Int) =>
  Gd (fun (x3 : Int) (x4 : Int) =>
  Chk (inB (IntKind.wrap .u8 x3) Ml.size) (
  some (W (x4 + (W (Ub Ml (IntKind.wrap .u8 x3))))))) (fun j2 =>
  if decide (256 ≤ x1) then
  j2 (Ex .u32 x1 8) (W (x2 + 8))
  else
  j2 x1 x2)) (fun j1 =>
  if decide (65536 ≤ p_x) then
  j1 (Ex .u32 p_x 16) 16
  else
  j1 p_x 0)
def Vv (p_x : Int) : Option Int :=
  Gd (fun (x1 : Int) (x2 : Int) =>
  Gd (fun (x3 : Int) (x4 : Int) =>
  Gd (fun (x5 : Int) (x6 : Int) =>
  Chk (inB (IntKind.wrap .u8 x5) Ml.size) (
  some (W (x6 + (W (Ub Ml (IntKind.wrap .u8 x5))))))) (fun j3 =>
  if decide (256 ≤ x3) then
  j3 (Ex .u64 x3 8) (W (x4 + 8))
  else
  j3 x3 x4)) (fun j2 =>
  if decide (65536 ≤ x1) then
  j2 (Ex .u64 x1 16) (W (x2 + 16))
  else
  j2 x1 x2)) (fun j1 =>
  if decide (4294967296 ≤ p_x) then
  j1 (Ex .u64 p_x 32) 32
  else
  j1 p_x 0)
def Uy (p_x : Int) : Option Int :=
  if false then
  Option.bind (Yw (IntKind.wrap .u32 p_x)) (fun r1 =>
  some r1)
  else
  Option.bind (Vv p_x) (fun r2 =>
  some r2)
def Ky (p_a : An) (p_b : An) : Int :=
  (Kc p_a.Who p_b.Who)
def Dk (p_a : Int) (j2 : (List An) → Option (List An)) : Nat → (List An) → Int → Option (List An)
  | 0,_,_=>none
  | m2 + 1,x3,x4=>Gd (fun (x5 : Bool) =>
  if x5 then
  Chk (inB (W (x4 - 1)) x3.length) (
  Chk (inB x4 x3.length) (
  Chk (inB x4 x3.length) (
  Chk (inB (W (x4 - 1)) (x3.set x4.toNat (nth x3 (W (x4 - 1)))).length) (
  Dk p_a j2 m2 ((x3.set x4.toNat (nth x3 (W (x4 - 1)))).set ((W (x4 - 1)).toNat) (nth x3 x4)) (W (x4 - 1))))))
  else
  j2 x3) (fun j3 =>
  if decide (p_a < x4) then
  Chk (inB x4 x3.length) (
  Chk (inB (W (x4 - 1)) x3.length) (
  j3 (decide ((Ky (nth x3 x4) (nth x3 (W (x4 - 1)))) < 0))))
  else
  j3 false)
def Dx (p_b : Int) (p_a : Int) (j1 : (List An) → Option (List An)) : Nat → (List An) → Int → Option (List An)
  | 0,_,_=>none
  | m1 + 1,x1,x2=>if decide (x2 < p_b) then
  Gd (fun (x3 : List An) =>
  Dx p_b p_a j1 m1 x3 (W (x2 + 1))) (fun j2 =>
  Dk p_a j2 ((x2 - p_a).toNat + 2) x1 x2)
  else
  j1 x1
def Ge (p_data : List An) (p_a : Int) (p_b : Int) : Option (List An) :=
  Gd (fun (x1 : List An) =>
  some x1) (fun j1 =>
  Dx p_b p_a j1 ((p_b - (W (p_a + 1))).toNat + 2) p_data (W (p_a + 1)))
def Et (p_data : List An) : Nat → Int → Int → Int → Bool → Option (List An)
  | 0,_,_,_,_=>none
  | _ + 1,x1,x2,x3,x4=>if decide ((W (x2 - x1)) ≤ 12) then
  Option.bind (Ge p_data x1 x2) (fun r1 =>
  some r1)
  else
  if decide (x3 = 0) then
  none
  else
  if !x4 then
  none
  else
  none
def Hr (p_data : List An) (p_a : Int) (p_b : Int) (p_limit : Int) : Option (List An) :=
  Et p_data 4611686018427387904 p_a p_b p_limit true
def Hn (p_x : List An) : Option (List An) :=
  Option.bind (Uy (IntKind.wrap .u64 (p_x.length : Int))) (fun r1 =>
  Option.bind (Hr p_x 0 (p_x.length : Int) r1) (fun r2 =>
  some r2))
def Jf (p_race : ByteArray) (j1 : (List (ByteArray × An)) → Option (List An)) : List An → Nat → (List (ByteArray × An)) → Option (List An)
  | [],_,x1=>j1 x1
  | y1 :: ys1,i1,x1=>Gd (fun (x2 : List (ByteArray × An)) =>
  Jf p_race j1 ys1 (i1 + 1) x2) (fun j2 =>
  if !decide (y1.Race = p_race) then
  j2 x1
  else
  Gd (fun (x3 : List (ByteArray × An)) =>
  j2 x3) (fun j3 =>
  Gd (fun (x4 : List (ByteArray × An)) =>
  j3 x4) (fun j4 =>
  if decide (y1.Kind = 1) then
  j4 (Fz x1 y1.Who y1)
  else
  Gd (fun (x5 : List (ByteArray × An)) =>
  j4 x5) (fun j5 =>
  if decide (y1.Kind = 2) then
  j5 (Wj x1 y1.Who)
  else
  j5 x1))))
def Jo (j6 : (List An) → Option (List An)) : List (ByteArray × An) → (List An) → Option (List An)
  | [],x6=>j6 x6
  | y2 :: ys2,x6=>Option.bind (α:=(List An)) (
  Chk (Ti x6.length) (
  some (x6 ++ [y2.2]))) (fun s=>Jo j6 ys2 s)
def Ob (p_s_p : Ln) (p_s_deeds : List An) (p_race : ByteArray) : Option (List An) :=
  Gd (fun (x1 : List (ByteArray × An)) =>
  Gd (fun (x6 : List An) =>
  Option.bind (Hn x6) (fun r1 =>
  some r1)) (fun j6 =>
  KZ x1 (fun p=>Jo j6 p ([] : List An)))) (fun j1 =>
  Jf p_race j1 p_s_deeds 0 ([] : List (ByteArray × An)))
def Tv (p_s_p : Ln) (p_s_deeds : List An) (p_key : ByteArray) : Option (Dg × Int) :=
  if decide ((Es p_s_p.Races p_key) < 0) then
  some ((Dg.mk Cx 0 0 0 0 0 0 0),8)
  else
  Option.bind (Ob p_s_p p_s_deeds p_key) (fun r1 =>
  if decide (300 < (r1.length : Int)) then
  some ((Dg.mk Cx 0 0 0 0 0 0 0),2)
  else
  Chk (inB (Es p_s_p.Races p_key) p_s_p.Races.length) (
  some ((nth p_s_p.Races (Es p_s_p.Races p_key)),0)))
def Wv (p_p : Ln) (p_l : List An) (p_race : ByteArray) (p_at : Int) : Option ((Option Ie) × Dg × Int) :=
  Option.bind (Ux p_p p_l ([p_at] : List Int)) (fun r1 =>
  if !decide (r1.2 = 0) then
  some (none,(Dg.mk Cx 0 0 0 0 0 0 0),r1.2)
  else
  Option.bind (r1.1) (fun r2 =>
  Option.bind (Tv r2.p_ r2.deeds_ p_race) (fun r3 =>
  some (some r2,r3.1,r3.2))))
def Kb (j1 : (List Dh) → Option (List Dh)) : List An → Nat → (List Dh) → Option (List Dh)
  | [],_,x1=>j1 x1
  | y1 :: ys1,i1,x1=>Chk (Ti x1.length) (
  Kb j1 ys1 (i1 + 1) (x1 ++ [(Dh.mk y1.Who y1.Time)]))
def Su (p_s_p : Ln) (p_s_deeds : List An) (p_race : ByteArray) : Option (List Dh) :=
  Option.bind (Ob p_s_p p_s_deeds p_race) (fun r1 =>
  Gd (fun (x1 : List Dh) =>
  some x1) (fun j1 =>
  Kb j1 r1 0 ([] : List Dh)))
def Iq (j1 : (List (ByteArray × Bool)) → Bool → Option Int) : List Dh → Nat → (List (ByteArray × Bool)) → Bool → Option Int
  | [],_,x1,x2=>j1 x1 x2
  | y1 :: ys1,i1,x1,x2=>Option.bind (Gn y1.Who) (fun r1 =>
  if !r1 then
  some 5
  else
  if !(Cy y1.Time 0 360000) then
  some 1
  else
  Iq j1 ys1 (i1 + 1) (Fz x1 y1.Who true) (x2 || (Ek x1 y1.Who false)))
def Pc (p_l : List Dh) : Option Int :=
  if decide (300 < (p_l.length : Int)) then
  some 2
  else
  Gd (fun (x1 : List (ByteArray × Bool)) (x2 : Bool) =>
  if x2 then
  some 6
  else
  some 0) (fun j1 =>
  Iq j1 p_l 0 ([] : List (ByteArray × Bool)) false)
def Rr (p_p : El) (p_l : List Dh) : Option Int :=
  if !decide ((Kn p_p) = 0) then
  some (Kn p_p)
  else
  Option.bind (Pc p_l) (fun r1 =>
  some r1)
def Mp (p_many : Int) (p_p : El) (j1 : (List Int) → Option ((List Int) × Int)) : Nat → (List Int) → Int → Option ((List Int) × Int)
  | 0,_,_=>none
  | m1 + 1,x1,x2=>if decide (x2 < (W (Int.tdiv (W ((W (p_many + (W ((W (p_p.High - p_p.Low)) + 1)))) - 1)) (W ((W (p_p.High - p_p.Low)) + 1))))) then
  Gd (fun (x3 : List Int) =>
  Mp p_many p_p j1 m1 x3 (W (x2 + 1))) (fun j2 =>
  Gd (fun (x4 : List Int) =>
  j2 x4) (fun j3 =>
  if decide (x2 = 0) then
  Chk (Ti x1.length) (
  j3 (x1 ++ [W (p_many - (W ((W ((W (p_p.High - p_p.Low)) + 1)) * (W ((W (Int.tdiv (W ((W (p_many + (W ((W (p_p.High - p_p.Low)) + 1)))) - 1)) (W ((W (p_p.High - p_p.Low)) + 1)))) - 1)))))]))
  else
  Chk (Ti x1.length) (
  j3 (x1 ++ [W ((W (p_p.High - p_p.Low)) + 1)]))))
  else
  j1 x1
def Pu (p_p : El) (p_many : Int) : Option ((List Int) × Int) :=
  Chk (!decide ((W ((W (p_p.High - p_p.Low)) + 1)) = 0)) (
  if decide (60 < (W (Int.tdiv (W ((W (p_many + (W ((W (p_p.High - p_p.Low)) + 1)))) - 1)) (W ((W (p_p.High - p_p.Low)) + 1))))) then
  some (([] : List Int),2)
  else
  Gd (fun (x1 : List Int) =>
  Gd (fun (c1 : Bool) =>
  Gd (fun (x5 : List Int) =>
  some (x5,0)) (fun j5 =>
  if c1 then
  Chk (inB 0 x1.length) (
  Chk (inB 1 x1.length) (
  Chk (inB 0 x1.length) (
  Chk (inB 0 x1.length) (
  Chk (inB 1 (x1.set ((0 : Int).toNat) (W ((nth x1 0) + (Wi (W (p_p.Least - (nth x1 0))) (W ((nth x1 1) - p_p.Least)))))).length) (
  Chk (inB 1 (x1.set ((0 : Int).toNat) (W ((nth x1 0) + (Wi (W (p_p.Least - (nth x1 0))) (W ((nth x1 1) - p_p.Least)))))).length) (
  j5 ((x1.set ((0 : Int).toNat) (W ((nth x1 0) + (Wi (W (p_p.Least - (nth x1 0))) (W ((nth x1 1) - p_p.Least)))))).set ((1 : Int).toNat) (W ((nth (x1.set ((0 : Int).toNat) (W ((nth x1 0) + (Wi (W (p_p.Least - (nth x1 0))) (W ((nth x1 1) - p_p.Least)))))) 1) - (Wi (W (p_p.Least - (nth x1 0))) (W ((nth x1 1) - p_p.Least))))))))))))
  else
  j5 x1)) (fun j4 =>
  if (decide (1 < (W (Int.tdiv (W ((W (p_many + (W ((W (p_p.High - p_p.Low)) + 1)))) - 1)) (W ((W (p_p.High - p_p.Low)) + 1)))))) then Chk (inB 0 x1.length) (
  j4 ((decide (1 < (W (Int.tdiv (W ((W (p_many + (W ((W (p_p.High - p_p.Low)) + 1)))) - 1)) (W ((W (p_p.High - p_p.Low)) + 1)))))) && (decide ((nth x1 0) < p_p.Least)))) else j4 ((decide (1 < (W (Int.tdiv (W ((W (p_many + (W ((W (p_p.High - p_p.Low)) + 1)))) - 1)) (W ((W (p_p.High - p_p.Low)) + 1)))))) && true))) (fun j1 =>
  Mp p_many p_p j1 (((W (Int.tdiv (W ((W (p_many + (W ((W (p_p.High - p_p.Low)) + 1)))) - 1)) (W ((W (p_p.High - p_p.Low)) + 1)))) - 0).toNat + 2) ([] : List Int) 0))
def Pn (p_s : List Dh) : Option (List Dh) :=
  Chk (decide ((([] : List Dh) : List Dh).length + p_s.length < 1073741824)) (
  some ((([] : List Dh) : List Dh) ++ p_s))
def Rs (p_a : Int) (p_b : Int) : Int :=
  if !decide ((decide (p_a = 0)) = (decide (p_b = 0))) then
  if decide (p_a = 0) then
  1
  else
  (-1)
  else
  (Fk p_a p_b)
def Lj (p_a : Dh) (p_b : Dh) : Int :=
  (Rs p_a.Time p_b.Time)
def Dm (p_a : Int) (j2 : (List Dh) → Option (List Dh)) : Nat → (List Dh) → Int → Option (List Dh)
  | 0,_,_=>none
  | m2 + 1,x3,x4=>Gd (fun (x5 : Bool) =>
  if x5 then
  Chk (inB (W (x4 - 1)) x3.length) (
  Chk (inB x4 x3.length) (
  Chk (inB x4 x3.length) (
  Chk (inB (W (x4 - 1)) (x3.set x4.toNat (nth x3 (W (x4 - 1)))).length) (
  Dm p_a j2 m2 ((x3.set x4.toNat (nth x3 (W (x4 - 1)))).set ((W (x4 - 1)).toNat) (nth x3 x4)) (W (x4 - 1))))))
  else
  j2 x3) (fun j3 =>
  if decide (p_a < x4) then
  Chk (inB x4 x3.length) (
  Chk (inB (W (x4 - 1)) x3.length) (
  j3 (decide ((Lj (nth x3 x4) (nth x3 (W (x4 - 1)))) < 0))))
  else
  j3 false)
def Ea (p_b : Int) (p_a : Int) (j1 : (List Dh) → Option (List Dh)) : Nat → (List Dh) → Int → Option (List Dh)
  | 0,_,_=>none
  | m1 + 1,x1,x2=>if decide (x2 < p_b) then
  Gd (fun (x3 : List Dh) =>
  Ea p_b p_a j1 m1 x3 (W (x2 + 1))) (fun j2 =>
  Dm p_a j2 ((x2 - p_a).toNat + 2) x1 x2)
  else
  j1 x1
def Fq (p_data : List Dh) (p_a : Int) (p_b : Int) : Option (List Dh) :=
  Gd (fun (x1 : List Dh) =>
  some x1) (fun j1 =>
  Ea p_b p_a j1 ((p_b - (W (p_a + 1))).toNat + 2) p_data (W (p_a + 1)))
def Em (p_n : Int) (j1 : (List Dh) → Int → Option (List Dh)) : Nat → (List Dh) → Int → Int → Option (List Dh)
  | 0,_,_,_=>none
  | m1 + 1,x1,x2,x3=>if decide (x3 ≤ p_n) then
  Option.bind (Fq x1 x2 x3) (fun r1 =>
  Em p_n j1 m1 r1 x3 (W (x3 + 20)))
  else
  j1 x1 x2
def Fl (p_n : Int) (j3 : Int → Option (List Dh)) : Nat → Int → Int → Option (List Dh)
  | 0,_,_=>none
  | _ + 1,x5,x6=>if decide (x6 ≤ p_n) then
  none
  else
  j3 x5
def En (p_n : Int) (j2 : Option (List Dh)) : Nat → Int → Option (List Dh)
  | 0,_=>none
  | m2 + 1,x4=>if decide (x4 < p_n) then
  Gd (fun (x5 : Int) =>
  if decide ((W (x5 + x4)) < p_n) then
  none
  else
  En p_n j2 m2 (W (x4 * 2))) (fun j3 =>
  Fl p_n j3 ((p_n - (W (2 * x4))).toNat + 2) 0 (W (2 * x4)))
  else
  j2
def Ia (p_data : List Dh) (p_n : Int) : Option (List Dh) :=
  Gd (fun (x1 : List Dh) (x2 : Int) =>
  Option.bind (Fq x1 x2 p_n) (fun r2 =>
  Gd (some r2) (fun j2 =>
  En p_n j2 ((p_n - 20).toNat + 2) 20))) (fun j1 =>
  Em p_n j1 ((p_n - 20).toNat + 2) p_data 0 20)
def Gx (p_x : List Dh) : Option (List Dh) :=
  Option.bind (Ia p_x (p_x.length : Int)) (fun r1 =>
  some r1)
def Lh (p_l : List Dh) : Option (List Dh) :=
  Option.bind (Pn p_l) (fun r1 =>
  Option.bind (Gx r1) (fun r2 =>
  some r2))
def Qz (p_at : Int) (p_first : Int) (p_end : Int) : Int :=
  if decide (p_at = p_first) then
  W (p_end - 1)
  else
  W (p_at - 1)
def Lk (p_p : El) (j1 : (List Int) → Option (List Int)) : Nat → (List Int) → Int → Option (List Int)
  | 0,_,_=>none
  | m1 + 1,x1,x2=>if decide ((x1.length : Int) < (W ((W (p_p.High - p_p.Low)) + 1))) then
  Gd (fun (x3 : List Int) =>
  Lk p_p j1 m1 x3 (W (x2 + 1))) (fun j2 =>
  Gd (fun (x4 : List Int) =>
  Gd (fun (x5 : List Int) =>
  j2 x5) (fun j4 =>
  if decide (p_p.Low ≤ (W ((W (Int.tdiv (W (p_p.Low + p_p.High)) 2)) - x2))) then
  Chk (Ti x4.length) (
  j4 (x4 ++ [W ((W (Int.tdiv (W (p_p.Low + p_p.High)) 2)) - x2)]))
  else
  j4 x4)) (fun j3 =>
  if decide ((W ((W (Int.tdiv (W (p_p.Low + p_p.High)) 2)) + x2)) ≤ p_p.High) then
  Chk (Ti x1.length) (
  j3 (x1 ++ [W ((W (Int.tdiv (W (p_p.Low + p_p.High)) 2)) + x2)]))
  else
  j3 x1))
  else
  j1 x1
def Vw (p_p : El) : Option (List Int) :=
  Gd (fun (x1 : List Int) =>
  some x1) (fun j1 =>
  Lk p_p j1 (((W ((W (p_p.High - p_p.Low)) + 1)) - (([W (Int.tdiv (W (p_p.Low + p_p.High)) 2)] : List Int).length : Int)).toNat + 2) ([W (Int.tdiv (W (p_p.Low + p_p.High)) 2)] : List Int) 1)
def Jj (p_a : Df) (p_b : Df) : Int :=
  (Sk [(Fk p_a.Heat p_b.Heat),(Fk p_a.Lane p_b.Lane)])
def Eb (p_a : Int) (j2 : (List Df) → Option (List Df)) : Nat → (List Df) → Int → Option (List Df)
  | 0,_,_=>none
  | m2 + 1,x3,x4=>Gd (fun (x5 : Bool) =>
  if x5 then
  Chk (inB (W (x4 - 1)) x3.length) (
  Chk (inB x4 x3.length) (
  Chk (inB x4 x3.length) (
  Chk (inB (W (x4 - 1)) (x3.set x4.toNat (nth x3 (W (x4 - 1)))).length) (
  Eb p_a j2 m2 ((x3.set x4.toNat (nth x3 (W (x4 - 1)))).set ((W (x4 - 1)).toNat) (nth x3 x4)) (W (x4 - 1))))))
  else
  j2 x3) (fun j3 =>
  if decide (p_a < x4) then
  Chk (inB x4 x3.length) (
  Chk (inB (W (x4 - 1)) x3.length) (
  j3 (decide ((Jj (nth x3 x4) (nth x3 (W (x4 - 1)))) < 0))))
  else
  j3 false)
def Ec (p_b : Int) (p_a : Int) (j1 : (List Df) → Option (List Df)) : Nat → (List Df) → Int → Option (List Df)
  | 0,_,_=>none
  | m1 + 1,x1,x2=>if decide (x2 < p_b) then
  Gd (fun (x3 : List Df) =>
  Ec p_b p_a j1 m1 x3 (W (x2 + 1))) (fun j2 =>
  Eb p_a j2 ((x2 - p_a).toNat + 2) x1 x2)
  else
  j1 x1
def Ht (p_data : List Df) (p_a : Int) (p_b : Int) : Option (List Df) :=
  Gd (fun (x1 : List Df) =>
  some x1) (fun j1 =>
  Ec p_b p_a j1 ((p_b - (W (p_a + 1))).toNat + 2) p_data (W (p_a + 1)))
def Ew (p_data : List Df) : Nat → Int → Int → Int → Bool → Option (List Df)
  | 0,_,_,_,_=>none
  | _ + 1,x1,x2,x3,x4=>if decide ((W (x2 - x1)) ≤ 12) then
  Option.bind (Ht p_data x1 x2) (fun r1 =>
  some r1)
  else
  if decide (x3 = 0) then
  none
  else
  if !x4 then
  none
  else
  none
def Ir (p_data : List Df) (p_a : Int) (p_b : Int) (p_limit : Int) : Option (List Df) :=
  Ew p_data 4611686018427387904 p_a p_b p_limit true
def Jt (p_x : List Df) : Option (List Df) :=
  Option.bind (Uy (IntKind.wrap .u64 (p_x.length : Int))) (fun r1 =>
  Option.bind (Ir p_x 0 (p_x.length : Int) r1) (fun r2 =>
  some r2))
def Ta (p_l : List Df) : Option (List Df) :=
  Option.bind (Jt p_l) (fun r1 =>
  some r1)
def Ly (r1 : (List Int)) (i1 : Nat) (j2 : (List Df) → Option (List Df)) : List ByteArray → Nat → (List Df) → Option (List Df)
  | [],_,x2=>j2 x2
  | y2 :: ys2,i2,x2=>Chk (inB (i2 : Int) r1.length) (
  Chk (Ti x2.length) (
  Ly r1 i1 j2 ys2 (i2 + 1) (x2 ++ [(Df.mk y2 (W ((i1 : Int) + 1)) (nth r1 (i2 : Int)))])))
def Lz (r1 : (List Int)) (j1 : (List Df) → Option (List Df)) : List (List ByteArray) → Nat → (List Df) → Option (List Df)
  | [],_,x1=>j1 x1
  | y1 :: ys1,i1,x1=>Gd (fun (x2 : List Df) =>
  Lz r1 j1 ys1 (i1 + 1) x2) (fun j2 =>
  Ly r1 i1 j2 y1 0 x1)
def Ww (p_p : El) (p_heats : List (List ByteArray)) : Option (List Df) :=
  Option.bind (Vw p_p) (fun r1 =>
  Gd (fun (x1 : List Df) =>
  Option.bind (Ta x1) (fun r3 =>
  some r3)) (fun j1 =>
  Lz r1 j1 p_heats 0 ([] : List Df)))
def Ns (j2 : Int → Option ((List Df) × Int)) : List Int → Nat → Int → Option ((List Df) × Int)
  | [],_,x2=>j2 x2
  | y1 :: ys1,i1,x2=>Ns j2 ys1 (i1 + 1) (W (x2 + y1))
def Nt (x3 : List (List ByteArray)) (r1 : (List Int) × Int) (x1 : Int) (j4 : Int → Option ((List Df) × Int)) : Nat → Int → Option ((List Df) × Int)
  | 0,_=>none
  | m1 + 1,x5=>Chk (inB x5 x3.length) (
  Chk (inB x5 r1.1.length) (
  if decide (((nth x3 x5).length : Int) = (nth r1.1 x5)) then
  Nt x3 r1 x1 j4 m1 (Qz x5 (W ((r1.1.length : Int) - x1)) (r1.1.length : Int))
  else
  j4 x5))
def Nu (r1 : (List Int) × Int) (x1 : Int) (j3 : (List (List ByteArray)) → Option ((List Df) × Int)) : List Dh → Nat → (List (List ByteArray)) → Int → Option ((List Df) × Int)
  | [],_,x3,_=>j3 x3
  | y2 :: ys2,i2,x3,x4=>Gd (fun (x5 : Int) =>
  Chk (inB x5 x3.length) (
  Chk (Ti (nth x3 x5).length) (
  Nu r1 x1 j3 ys2 (i2 + 1) (x3.set x5.toNat ((nth x3 x5) ++ [y2.Who])) (Qz x5 (W ((r1.1.length : Int) - x1)) (r1.1.length : Int))))) (fun j4 =>
  Nt x3 r1 x1 j4 4611686018427387904 x4)
def Nv (x8 : Int) (j6 : (List (List ByteArray)) → Option ((List Df) × Int)) : List Dh → Nat → (List (List ByteArray)) → Option ((List Df) × Int)
  | [],_,x9=>j6 x9
  | y3 :: ys3,i5,x9=>Chk (inB x8 x9.length) (
  Chk (Ti (nth x9 x8).length) (
  Nv x8 j6 ys3 (i5 + 1) (x9.set x8.toNat ((nth x9 x8) ++ [y3.Who]))))
def Nw (r1 : (List Int) × Int) (j5 : (List (List ByteArray)) → Option ((List Df) × Int)) : Nat → (List (List ByteArray)) → (List Dh) → Int → Option ((List Df) × Int)
  | 0,_,_,_=>none
  | m2 + 1,x6,x7,x8=>if decide (0 ≤ x8) then
  Chk (inB x8 r1.1.length) (
  Chk (Vo 0 (nth r1.1 x8) x7.length) (
  Gd (fun (x9 : List (List ByteArray)) =>
  Chk (inB x8 r1.1.length) (
  Chk (Vo (nth r1.1 x8) (x7.length : Int) x7.length) (
  Nw r1 j5 m2 x9 (cut x7 (nth r1.1 x8) x7.length) (W (x8 - 1))))) (fun j6 =>
  Nv x8 j6 (cut x7 0 (nth r1.1 x8)) 0 x6)))
  else
  j5 x6
def Md (p_p : El) (p_l : List Dh) : Option ((List Df) × Int) :=
  Option.bind (Pu p_p (p_l.length : Int)) (fun r1 =>
  if !decide (r1.2 = 0) then
  some (([] : List Df),r1.2)
  else
  Chk (decide (0 ≤ (r1.1.length : Int)) && decide ((r1.1.length : Int) < 1073741824)) (
  Gd (fun (x1 : Int) =>
  Chk (Vo (W ((r1.1.length : Int) - x1)) (r1.1.length : Int) r1.1.length) (
  Gd (fun (x2 : Int) =>
  Option.bind (Lh p_l) (fun r2 =>
  Chk (Vo 0 x2 r2.length) (
  Gd (fun (x3 : List (List ByteArray)) =>
  Chk (Vo x2 (r2.length : Int) r2.length) (
  Gd (fun (x6 : List (List ByteArray)) =>
  Option.bind (Ww p_p x6) (fun r3 =>
  some (r3,0))) (fun j5 =>
  Nw r1 j5 (((W ((W ((r1.1.length : Int) - x1)) - 1)) - 0).toNat + 2) x3 (cut r2 x2 r2.length) (W ((W ((r1.1.length : Int) - x1)) - 1))))) (fun j3 =>
  Nu r1 x1 j3 (cut r2 0 x2) 0 (List.replicate ((r1.1.length : Int).toNat) [] : List (List ByteArray)) (W ((r1.1.length : Int) - 1)))))) (fun j2 =>
  Ns j2 (cut r1.1 (W ((r1.1.length : Int) - x1)) r1.1.length) 0 0))) (fun j1 =>
  if decide ((Wi p_p.Circles (r1.1.length : Int)) < 2) then
  j1 0
  else
  j1 (Wi p_p.Circles (r1.1.length : Int)))))
def Uz (p_p : El) (p_l : List Dh) : Option ((List Df) × Int) :=
  Option.bind (Rr p_p p_l) (fun r1 =>
  if !decide (r1 = 0) then
  some (([] : List Df),r1)
  else
  Option.bind (Md p_p p_l) (fun r2 =>
  some (r2.1,r2.2)))
def Sv (p_p : Ln) (p_q : El) (p_l : List An) (p_race : ByteArray) (p_at : Int) : Option ((List Df) × Int) :=
  Option.bind (Om p_p) (fun r1 =>
  if !decide (r1 = 0) then
  some (([] : List Df),r1)
  else
  if !decide ((Kn p_q) = 0) then
  some (([] : List Df),(Kn p_q))
  else
  Option.bind (Wv p_p p_l p_race p_at) (fun r2 =>
  if !decide (r2.2.2 = 0) then
  some (([] : List Df),r2.2.2)
  else
  Option.bind (r2.1) (fun r3 =>
  Option.bind (Su r3.p_ r3.deeds_ p_race) (fun r4 =>
  Option.bind (Uz p_q r4) (fun r5 =>
  some (r5.1,r5.2))))))
def Iv (j1 : (List (ByteArray × Bool)) → Option Int) : List Ka → Nat → (List (ByteArray × Bool)) → Option Int
  | [],_,x1=>j1 x1
  | y1 :: ys1,i1,x1=>Option.bind (Gn y1.Key) (fun r1 =>
  if !r1 then
  some 5
  else
  if Ek x1 y1.Key false then
  some 6
  else
  if ((((!(Cy y1.Heats 1 60)) || (!(Cy y1.Long 1 3600000))) || (!(Cy y1.Gap 0 3600000))) || (!(Cy y1.Break 0 3600000))) then
  some 1
  else
  Iv j1 ys1 (i1 + 1) (Fz x1 y1.Key true))
def Qu (p_l : List Ka) : Option Int :=
  if decide (100 < (p_l.length : Int)) then
  some 2
  else
  Gd (fun (x1 : List (ByteArray × Bool)) =>
  some 0) (fun j1 =>
  Iv j1 p_l 0 ([] : List (ByteArray × Bool)))
def Jh (y1 : Ka) (j2 : (List Ik) → Int → Option (List Ik)) : Nat → (List Ik) → Int → Int → Option (List Ik)
  | 0,_,_,_=>none
  | m1 + 1,x3,x4,x5=>if decide (x5 ≤ y1.Heats) then
  Gd (fun (x6 : List Ik) (x7 : Int) =>
  Jh y1 j2 m1 x6 x7 (W (x5 + 1))) (fun j3 =>
  Chk (Ti x3.length) (
  Gd (fun (x8 : Int) =>
  j3 (x3 ++ [(Ik.mk y1.Key x5 (Py.mk x4 (W (x4 + y1.Long))))]) x8) (fun j4 =>
  if decide (x5 < y1.Heats) then
  j4 (W ((W (x4 + y1.Long)) + y1.Gap))
  else
  j4 (W (x4 + y1.Long)))))
  else
  j2 x3 x4
def Ji (j1 : (List Ik) → Option (List Ik)) : List Ka → Nat → (List Ik) → Int → Option (List Ik)
  | [],_,x1,_=>j1 x1
  | y1 :: ys1,i1,x1,x2=>Gd (fun (x3 : List Ik) (x4 : Int) =>
  Ji j1 ys1 (i1 + 1) x3 (W (x4 + y1.Break))) (fun j2 =>
  Jh y1 j2 ((y1.Heats - 1).toNat + 2) x1 x2 1)
def Rt (p_l : List Ka) (p_from : Int) : Option (List Ik) :=
  Gd (fun (x1 : List Ik) =>
  some x1) (fun j1 =>
  Ji j1 p_l 0 ([] : List Ik) p_from)
def Uf (p_l : List Ik) (p_from : Int) : Option Int :=
  if decide ((p_l.length : Int) = 0) then
  some p_from
  else
  Chk (inB (W ((p_l.length : Int) - 1)) p_l.length) (
  some (((nth p_l (W ((p_l.length : Int) - 1))).Time).To))
def Up (p_l : List Ka) (p_from : Int) : Option ((List Ik) × Int) :=
  if !(Hg p_from) then
  some (([] : List Ik),1)
  else
  Option.bind (Rt p_l p_from) (fun r1 =>
  Option.bind (Uf r1 p_from) (fun r2 =>
  if decide (345686400000 < r2) then
  some (([] : List Ik),1)
  else
  some (r1,0)))
def Me (p_l : List Ka) (p_from : Int) : Option ((List Ik) × Int) :=
  Option.bind (Qu p_l) (fun r1 =>
  if !decide (r1 = 0) then
  some (([] : List Ik),r1)
  else
  Option.bind (Up p_l p_from) (fun r2 =>
  some (r2.1,r2.2)))
def Tb (p_p : El) (p_l : List Df) (p_i : Int) : Option Int :=
  Chk (inB p_i p_l.length) (
  Option.bind (Gn ((nth p_l p_i).Who)) (fun r1 =>
  if !r1 then
  some 5
  else
  if ((!(Cy ((nth p_l p_i).Heat) 1 60)) || (!(Cy ((nth p_l p_i).Lane) p_p.Low p_p.High))) then
  some 1
  else
  Gd (fun (x1 : Bool) =>
  if x1 then
  some 7
  else
  some 0) (fun j1 =>
  if decide (0 < p_i) then
  Chk (inB (W (p_i - 1)) p_l.length) (
  j1 (decide (0 ≤ (Jj (nth p_l (W (p_i - 1))) (nth p_l p_i)))))
  else
  j1 false)))
def Jp (p_p : El) (p_l : List Df) (j1 : (List (ByteArray × Bool)) → Bool → Bool → Option Int) : List Df → Nat → (List (ByteArray × Bool)) → Bool → Bool → Int → Option Int
  | [],_,x1,x2,x3,_=>j1 x1 x2 x3
  | y1 :: ys1,i1,x1,x2,x3,x4=>Option.bind (Tb p_p p_l (i1 : Int)) (fun r1 =>
  if !decide (r1 = 0) then
  some r1
  else
  Jp p_p p_l j1 ys1 (i1 + 1) (Fz x1 y1.Who true) (x2 || (Ek x1 y1.Who false)) (x3 || (decide ((W (x4 + 1)) < y1.Heat))) y1.Heat)
def Qa (p_p : El) (p_l : List Df) : Option Int :=
  if !decide ((Kn p_p) = 0) then
  some (Kn p_p)
  else
  if decide (300 < (p_l.length : Int)) then
  some 2
  else
  Gd (fun (x1 : List (ByteArray × Bool)) (x2 : Bool) (x3 : Bool) =>
  if x2 then
  some 6
  else
  if x3 then
  some 8
  else
  some 0) (fun j1 =>
  Jp p_p p_l j1 p_l 0 ([] : List (ByteArray × Bool)) false false 0)
def Io (p_x : ByteArray) : Bool :=
  !decide (p_x = p_x)
def Qq (p_x : ByteArray) (p_y : ByteArray) : Bool :=
  (((Io p_x) && (!(Io p_y))) || (AZ p_x p_y))
def Fw (p_a : Int) (j2 : (List ByteArray) → Option (List ByteArray)) : Nat → (List ByteArray) → Int → Option (List ByteArray)
  | 0,_,_=>none
  | m2 + 1,x3,x4=>Gd (fun (x5 : Bool) =>
  if x5 then
  Chk (inB (W (x4 - 1)) x3.length) (
  Chk (inB x4 x3.length) (
  Chk (inB x4 x3.length) (
  Chk (inB (W (x4 - 1)) (x3.set x4.toNat (nth x3 (W (x4 - 1)))).length) (
  Fw p_a j2 m2 ((x3.set x4.toNat (nth x3 (W (x4 - 1)))).set ((W (x4 - 1)).toNat) (nth x3 x4)) (W (x4 - 1))))))
  else
  j2 x3) (fun j3 =>
  if decide (p_a < x4) then
  Chk (inB x4 x3.length) (
  Chk (inB (W (x4 - 1)) x3.length) (
  j3 (Qq (nth x3 x4) (nth x3 (W (x4 - 1))))))
  else
  j3 false)
def Fx (p_b : Int) (p_a : Int) (j1 : (List ByteArray) → Option (List ByteArray)) : Nat → (List ByteArray) → Int → Option (List ByteArray)
  | 0,_,_=>none
  | m1 + 1,x1,x2=>if decide (x2 < p_b) then
  Gd (fun (x3 : List ByteArray) =>
  Fx p_b p_a j1 m1 x3 (W (x2 + 1))) (fun j2 =>
  Fw p_a j2 ((x2 - p_a).toNat + 2) x1 x2)
  else
  j1 x1
def Kv (p_data : List ByteArray) (p_a : Int) (p_b : Int) : Option (List ByteArray) :=
  Gd (fun (x1 : List ByteArray) =>
  some x1) (fun j1 =>
  Fx p_b p_a j1 ((p_b - (W (p_a + 1))).toNat + 2) p_data (W (p_a + 1)))
def Gz (p_data : List ByteArray) : Nat → Int → Int → Int → Bool → Option (List ByteArray)
  | 0,_,_,_,_=>none
  | _ + 1,x1,x2,x3,x4=>if decide ((W (x2 - x1)) ≤ 12) then
  Option.bind (Kv p_data x1 x2) (fun r1 =>
  some r1)
  else
  if decide (x3 = 0) then
  none
  else
  if !x4 then
  none
  else
  none
def Mh (p_data : List ByteArray) (p_a : Int) (p_b : Int) (p_limit : Int) : Option (List ByteArray) :=
  Gz p_data 4611686018427387904 p_a p_b p_limit true
def Nb (p_x : List ByteArray) : Option (List ByteArray) :=
  Option.bind (Uy (IntKind.wrap .u64 (p_x.length : Int))) (fun r1 =>
  Option.bind (Mh p_x 0 (p_x.length : Int) r1) (fun r2 =>
  some r2))
def Hx (p_s : List ByteArray) (x1 : Int) (j2 : (List ByteArray) → Int → Option (List ByteArray)) : Nat → (List ByteArray) → Int → Int → Option (List ByteArray)
  | 0,_,_,_=>none
  | m2 + 1,x2,x3,x4=>if decide (x4 < (((p_s.length : Int).toNat - x1.toNat : Nat) : Int)) then
  Gd (fun (x5 : List ByteArray) (x6 : Int) =>
  Hx p_s x1 j2 m2 x5 x6 (W (x4 + 1))) (fun j3 =>
  Chk (inB x4 ((p_s.length : Int).toNat - x1.toNat)) (
  Chk (inB (W (x4 - 1)) ((p_s.length : Int).toNat - x1.toNat)) (
  Gd (fun (x7 : List ByteArray) (x8 : Int) =>
  j3 x7 x8) (fun j4 =>
  if !decide ((nth (cut x2 x1 (p_s.length : Int)) x4) = (nth (cut x2 x1 (p_s.length : Int)) (W (x4 - 1)))) then
  Chk (inB x4 ((p_s.length : Int).toNat - x1.toNat)) (
  Chk (inB x3 x2.length) (
  j4 (x2.set x3.toNat (nth (cut x2 x1 (p_s.length : Int)) x4)) (W (x3 + 1))))
  else
  j4 x2 x3))))
  else
  j2 x2 x3
def Hy (p_s : List ByteArray) (j1 : Option (List ByteArray)) : Nat → Int → Option (List ByteArray)
  | 0,_=>none
  | m1 + 1,x1=>if decide (x1 < (p_s.length : Int)) then
  Chk (inB x1 p_s.length) (
  Chk (inB (W (x1 - 1)) p_s.length) (
  if decide ((nth p_s x1) = (nth p_s (W (x1 - 1)))) then
  Chk (Vo x1 (p_s.length : Int) p_s.length) (
  Gd (fun (x2 : List ByteArray) (x3 : Int) =>
  Chk (Vo x3 (x2.length : Int) x2.length) (
  Chk (Vo 0 x3 (clr x2 x3 (x2.length : Int) Cx).length) (
  some (cut (clr x2 x3 (x2.length : Int) Cx) (0 : Int) x3)))) (fun j2 =>
  Hx p_s x1 j2 (((((p_s.length : Int).toNat - x1.toNat : Nat) : Int) - 1).toNat + 2) p_s x1 1))
  else
  Hy p_s j1 m1 (W (x1 + 1))))
  else
  j1
def Lo (p_s : List ByteArray) : Option (List ByteArray) :=
  if decide ((p_s.length : Int) < 2) then
  some p_s
  else
  Gd (some p_s) (fun j1 =>
  Hy p_s j1 (((p_s.length : Int) - 1).toNat + 2) 1)
def Tj (p_year : Int) : Bool :=
  ((decide ((Int.tmod p_year 4) = 0)) && ((!decide ((Int.tmod p_year 100) = 0)) || (decide ((Int.tmod p_year 400) = 0))))
def Kr (p_year : Int) (p_month : Int) : Int :=
  if decide (p_month = 2) then
  if (Tj p_year) then
  29
  else
  28
  else
  Gd (fun (x1 : Bool) =>
  if x1 then
  30
  else
  31) (fun j1 =>
  if decide (p_month = 4) then
  j1 (decide (p_month = 4))
  else
  Gd (fun (x2 : Bool) =>
  j1 x2) (fun j2 =>
  if decide (p_month = 6) then
  j2 (decide (p_month = 6))
  else
  Gd (fun (x3 : Bool) =>
  j2 x3) (fun j3 =>
  if decide (p_month = 9) then
  j3 (decide (p_month = 9))
  else
  j3 (decide (p_month = 11)))))
def Mv (p_year : Int) : Int :=
  if (Tj p_year) then
  366
  else
  365
def Uq (p_n : Int) : Bool :=
  (Cy p_n (-40000) 4000)
def Kz (p_d : Ju) (j2 : Int → Option (Int × Int)) : Nat → Int → Int → Option (Int × Int)
  | 0,_,_=>none
  | m1 + 1,x2,x3=>if decide (x3 < p_d.Month) then
  Kz p_d j2 m1 (W (x2 + (Kr p_d.Year x3))) (W (x3 + 1))
  else
  j2 x2
def La (p_d : Ju) (j3 : Int → Option (Int × Int)) : Nat → Int → Int → Option (Int × Int)
  | 0,_,_=>none
  | m2 + 1,x4,x5=>if decide (x5 < p_d.Year) then
  La p_d j3 m2 (W (x4 + (Mv x5))) (W (x5 + 1))
  else
  j3 x4
def Lb (j4 : Int → Option (Int × Int)) : Nat → Int → Int → Option (Int × Int)
  | 0,_,_=>none
  | m3 + 1,x6,x7=>if decide (x7 < 2024) then
  Lb j4 m3 (W (x6 - (Mv x7))) (W (x7 + 1))
  else
  j4 x6
def Ur (p_d : Ju) : Option (Int × Int) :=
  Gd (fun (x1 : Bool) =>
  if x1 then
  some (0,1)
  else
  Gd (fun (x2 : Int) =>
  Gd (fun (x4 : Int) =>
  Gd (fun (x6 : Int) =>
  if !(Uq x6) then
  some (0,1)
  else
  some (x6,0)) (fun j4 =>
  Lb j4 ((2024 - p_d.Year).toNat + 2) x4 p_d.Year)) (fun j3 =>
  La p_d j3 ((p_d.Year - 2024).toNat + 2) x2 2024)) (fun j2 =>
  Kz p_d j2 ((p_d.Month - 1).toNat + 2) (W (p_d.Day - 1)) 1)) (fun j1 =>
  if !(Cy p_d.Year 1900 2100) then
  if true then
  j1 true
  else
  j1 (!(Cy p_d.Day 1 (Kr p_d.Year p_d.Month)))
  else
  if !(Cy p_d.Month 1 12) then
  j1 true
  else
  j1 (!(Cy p_d.Day 1 (Kr p_d.Year p_d.Month))))
def Vx (p_l : List Ka) (p_from : Int) : Option (Int × Int) :=
  Option.bind (Me p_l p_from) (fun r1 =>
  if !decide (r1.2 = 0) then
  some (0,r1.2)
  else
  Option.bind (Uf r1.1 p_from) (fun r2 =>
  some (r2,0)))
def Sp (p_n : Int) : Bool :=
  (Cy p_n 1 360000)
def Jq (p_l : List Od) (j1 : Option Int) : List Od → Nat → Option Int
  | [],_=>j1
  | y1 :: ys1,i1=>Option.bind (Gn y1.Race) (fun r1 =>
  if !r1 then
  some 5
  else
  Gd (fun (c1 : Bool) =>
  if c1 then
  some 7
  else
  if !(Sp y1.Time) then
  some 1
  else
  Jq p_l j1 ys1 (i1 + 1)) (fun j2 =>
  if (decide (0 < (i1 : Int))) then Chk (inB (W ((i1 : Int) - 1)) p_l.length) (
  j2 ((decide (0 < (i1 : Int))) && (AZ y1.Race ((nth p_l (W ((i1 : Int) - 1))).Race) || decide (y1.Race = ((nth p_l (W ((i1 : Int) - 1))).Race))))) else j2 ((decide (0 < (i1 : Int))) && true)))
def Sm (p_l : List Od) : Option Int :=
  if decide (500 < (p_l.length : Int)) then
  some 2
  else
  Gd (some 0) (fun j1 =>
  Jq p_l j1 p_l 0)
def Lc (p_race : ByteArray) (j1 : Int) : List Od → Nat → Int
  | [],_=>j1
  | y1 :: ys1,i1=>if decide (y1.Race = p_race) then
  y1.Time
  else
  Lc p_race j1 ys1 (i1 + 1)
def Pg (p_l : List Od) (p_race : ByteArray) : Int :=
  Gd (0) (fun j1 =>
  Lc p_race j1 p_l 0)
def Ov (p_x : Int) (p_y : Int) : (Int × Int) :=
  (IntKind.wrap .u64 ((IntKind.wrap .u64 ((IntKind.wrap .u64 ((Ex .u64 p_x 32) * (Ex .u64 p_y 32))) + (Ex .u64 (IntKind.wrap .u64 ((IntKind.wrap .u64 ((Ex .u64 p_x 32) * (Kt .u64 p_y 4294967295))) + (Ex .u64 (IntKind.wrap .u64 ((Kt .u64 p_x 4294967295) * (Kt .u64 p_y 4294967295))) 32))) 32))) + (Ex .u64 (IntKind.wrap .u64 ((Kt .u64 (IntKind.wrap .u64 ((IntKind.wrap .u64 ((Ex .u64 p_x 32) * (Kt .u64 p_y 4294967295))) + (Ex .u64 (IntKind.wrap .u64 ((Kt .u64 p_x 4294967295) * (Kt .u64 p_y 4294967295))) 32))) 4294967295) + (IntKind.wrap .u64 ((Kt .u64 p_x 4294967295) * (Ex .u64 p_y 32))))) 32)),IntKind.wrap .u64 (p_x * p_y))
def Qh (p_x : Int) : Option Int :=
  Option.bind (Vv p_x) (fun r1 =>
  some (W (64 - r1)))
def Mq (p_lo : Int) (r1 : Int) (p_y : Int) (j1 : Int → Option (Int × Int)) : Nat → Int → Int → Option (Int × Int)
  | 0,_,_=>none
  | m1 + 1,x1,x2=>if ((decide (4294967296 ≤ x1)) || (decide ((IntKind.wrap .u64 ((IntKind.wrap .u64 (4294967296 * x2)) + (Ex .u64 (Ef .u64 p_lo (IntKind.wrap .u64 r1)) 32))) < (IntKind.wrap .u64 (x1 * (Kt .u64 (Ef .u64 p_y (IntKind.wrap .u64 r1)) 4294967295)))))) then
  if decide (4294967296 ≤ (IntKind.wrap .u64 (x2 + (Ex .u64 (Ef .u64 p_y (IntKind.wrap .u64 r1)) 32)))) then
  j1 (IntKind.wrap .u64 (x1 - 1))
  else
  Mq p_lo r1 p_y j1 m1 (IntKind.wrap .u64 (x1 - 1)) (IntKind.wrap .u64 (x2 + (Ex .u64 (Ef .u64 p_y (IntKind.wrap .u64 r1)) 32)))
  else
  j1 x1
def Mr (p_lo : Int) (r1 : Int) (p_y : Int) (j2 : Int → Option (Int × Int)) : Nat → Int → Int → Option (Int × Int)
  | 0,_,_=>none
  | m2 + 1,x3,x4=>if ((decide (4294967296 ≤ x4)) || (decide ((IntKind.wrap .u64 ((IntKind.wrap .u64 (4294967296 * x3)) + (Kt .u64 (Ef .u64 p_lo (IntKind.wrap .u64 r1)) 4294967295))) < (IntKind.wrap .u64 (x4 * (Kt .u64 (Ef .u64 p_y (IntKind.wrap .u64 r1)) 4294967295)))))) then
  if decide (4294967296 ≤ (IntKind.wrap .u64 (x3 + (Ex .u64 (Ef .u64 p_y (IntKind.wrap .u64 r1)) 32)))) then
  j2 (IntKind.wrap .u64 (x4 - 1))
  else
  Mr p_lo r1 p_y j2 m2 (IntKind.wrap .u64 (x3 + (Ex .u64 (Ef .u64 p_y (IntKind.wrap .u64 r1)) 32))) (IntKind.wrap .u64 (x4 - 1))
  else
  j2 x4
def Yx (p_hi : Int) (p_lo : Int) (p_y : Int) : Option (Int × Int) :=
  if decide (p_y = 0) then
  none
  else
  if decide (p_y ≤ p_hi) then
  none
  else
  if decide (p_hi = 0) then
  Chk (!decide (p_y = 0)) (
  Chk (!decide (p_y = 0)) (
  some (IntKind.wrap .u64 (Int.tdiv p_lo p_y),Int.tmod p_lo p_y)))
  else
  Option.bind (Qh p_y) (fun r1 =>
  Chk (decide (0 ≤ (IntKind.wrap .u64 r1))) (
  Chk (decide (0 ≤ (IntKind.wrap .u64 r1))) (
  Chk (decide (0 ≤ (IntKind.wrap .u64 (64 - (IntKind.wrap .u64 r1))))) (
  Chk (decide (0 ≤ (IntKind.wrap .u64 r1))) (
  Chk (!decide ((Ex .u64 (Ef .u64 p_y (IntKind.wrap .u64 r1)) 32) = 0)) (
  Gd (fun (x1 : Int) =>
  Chk (!decide ((Ex .u64 (Ef .u64 p_y (IntKind.wrap .u64 r1)) 32) = 0)) (
  Gd (fun (x4 : Int) =>
  Chk (decide (0 ≤ (IntKind.wrap .u64 r1))) (
  some (IntKind.wrap .u64 ((IntKind.wrap .u64 (x1 * 4294967296)) + x4),Ex .u64 (IntKind.wrap .u64 ((IntKind.wrap .u64 ((IntKind.wrap .u64 ((IntKind.wrap .u64 ((IntKind.wrap .u64 ((IntKind.wrap .u64 ((Oy .u64 (Ef .u64 p_hi (IntKind.wrap .u64 r1)) (Ex .u64 p_lo (IntKind.wrap .u64 (64 - (IntKind.wrap .u64 r1))))) * 4294967296)) + (Ex .u64 (Ef .u64 p_lo (IntKind.wrap .u64 r1)) 32))) - (IntKind.wrap .u64 (x1 * (Ef .u64 p_y (IntKind.wrap .u64 r1)))))) * 4294967296)) + (Kt .u64 (Ef .u64 p_lo (IntKind.wrap .u64 r1)) 4294967295))) - (IntKind.wrap .u64 (x4 * (Ef .u64 p_y (IntKind.wrap .u64 r1)))))) (IntKind.wrap .u64 r1)))) (fun j2 =>
  Mr p_lo r1 p_y j2 (((IntKind.wrap .u64 (Int.tdiv (IntKind.wrap .u64 ((IntKind.wrap .u64 ((IntKind.wrap .u64 ((Oy .u64 (Ef .u64 p_hi (IntKind.wrap .u64 r1)) (Ex .u64 p_lo (IntKind.wrap .u64 (64 - (IntKind.wrap .u64 r1))))) * 4294967296)) + (Ex .u64 (Ef .u64 p_lo (IntKind.wrap .u64 r1)) 32))) - (IntKind.wrap .u64 (x1 * (Ef .u64 p_y (IntKind.wrap .u64 r1)))))) (Ex .u64 (Ef .u64 p_y (IntKind.wrap .u64 r1)) 32))) - 4294967296).toNat + 2) (IntKind.wrap .u64 ((IntKind.wrap .u64 ((IntKind.wrap .u64 ((IntKind.wrap .u64 ((Oy .u64 (Ef .u64 p_hi (IntKind.wrap .u64 r1)) (Ex .u64 p_lo (IntKind.wrap .u64 (64 - (IntKind.wrap .u64 r1))))) * 4294967296)) + (Ex .u64 (Ef .u64 p_lo (IntKind.wrap .u64 r1)) 32))) - (IntKind.wrap .u64 (x1 * (Ef .u64 p_y (IntKind.wrap .u64 r1)))))) - (IntKind.wrap .u64 ((IntKind.wrap .u64 (Int.tdiv (IntKind.wrap .u64 ((IntKind.wrap .u64 ((IntKind.wrap .u64 ((Oy .u64 (Ef .u64 p_hi (IntKind.wrap .u64 r1)) (Ex .u64 p_lo (IntKind.wrap .u64 (64 - (IntKind.wrap .u64 r1))))) * 4294967296)) + (Ex .u64 (Ef .u64 p_lo (IntKind.wrap .u64 r1)) 32))) - (IntKind.wrap .u64 (x1 * (Ef .u64 p_y (IntKind.wrap .u64 r1)))))) (Ex .u64 (Ef .u64 p_y (IntKind.wrap .u64 r1)) 32))) * (Ex .u64 (Ef .u64 p_y (IntKind.wrap .u64 r1)) 32))))) (IntKind.wrap .u64 (Int.tdiv (IntKind.wrap .u64 ((IntKind.wrap .u64 ((IntKind.wrap .u64 ((Oy .u64 (Ef .u64 p_hi (IntKind.wrap .u64 r1)) (Ex .u64 p_lo (IntKind.wrap .u64 (64 - (IntKind.wrap .u64 r1))))) * 4294967296)) + (Ex .u64 (Ef .u64 p_lo (IntKind.wrap .u64 r1)) 32))) - (IntKind.wrap .u64 (x1 * (Ef .u64 p_y (IntKind.wrap .u64 r1)))))) (Ex .u64 (Ef .u64 p_y (IntKind.wrap .u64 r1)) 32)))))) (fun j1 =>
  Mq p_lo r1 p_y j1 (((IntKind.wrap .u64 (Int.tdiv (Oy .u64 (Ef .u64 p_hi (IntKind.wrap .u64 r1)) (Ex .u64 p_lo (IntKind.wrap .u64 (64 - (IntKind.wrap .u64 r1))))) (Ex .u64 (Ef .u64 p_y (IntKind.wrap .u64 r1)) 32))) - 4294967296).toNat + 2) (IntKind.wrap .u64 (Int.tdiv (Oy .u64 (Ef .u64 p_hi (IntKind.wrap .u64 r1)) (Ex .u64 p_lo (IntKind.wrap .u64 (64 - (IntKind.wrap .u64 r1))))) (Ex .u64 (Ef .u64 p_y (IntKind.wrap .u64 r1)) 32))) (IntKind.wrap .u64 ((Oy .u64 (Ef .u64 p_hi (IntKind.wrap .u64 r1)) (Ex .u64 p_lo (IntKind.wrap .u64 (64 - (IntKind.wrap .u64 r1))))) - (IntKind.wrap .u64 ((IntKind.wrap .u64 (Int.tdiv (Oy .u64 (Ef .u64 p_hi (IntKind.wrap .u64 r1)) (Ex .u64 p_lo (IntKind.wrap .u64 (64 - (IntKind.wrap .u64 r1))))) (Ex .u64 (Ef .u64 p_y (IntKind.wrap .u64 r1)) 32))) * (Ex .u64 (Ef .u64 p_y (IntKind.wrap .u64 r1)) 32))))))))))))
def Us (p_base : Int) (p_time : Int) : Option Int :=
  if decide ((IntKind.wrap .u64 ((IntKind.wrap .u64 ((IntKind.wrap .u64 p_time) * (IntKind.wrap .u64 p_time))) * (IntKind.wrap .u64 p_time))) ≤ ((Ov (IntKind.wrap .u64 ((IntKind.wrap .u64 ((IntKind.wrap .u64 p_base) * (IntKind.wrap .u64 p_base))) * (IntKind.wrap .u64 p_base))) 1000).1)) then
  some 1000000000
  else
  Option.bind (Yx ((Ov (IntKind.wrap .u64 ((IntKind.wrap .u64 ((IntKind.wrap .u64 p_base) * (IntKind.wrap .u64 p_base))) * (IntKind.wrap .u64 p_base))) 1000).1) ((Ov (IntKind.wrap .u64 ((IntKind.wrap .u64 ((IntKind.wrap .u64 p_base) * (IntKind.wrap .u64 p_base))) * (IntKind.wrap .u64 p_base))) 1000).2) (IntKind.wrap .u64 ((IntKind.wrap .u64 ((IntKind.wrap .u64 p_time) * (IntKind.wrap .u64 p_time))) * (IntKind.wrap .u64 p_time)))) (fun r1 =>
  some (W (Wi r1.1 1000000000)))
def Ut (p_l : List Od) (p_race : ByteArray) (p_time : Int) : Option (Int × Int) :=
  Option.bind (Sm p_l) (fun r1 =>
  if !decide (r1 = 0) then
  some (0,r1)
  else
  if decide ((Pg p_l p_race) = 0) then
  some (0,8)
  else
  if !(Sp p_time) then
  some (0,1)
  else
  Option.bind (Us (Pg p_l p_race) p_time) (fun r2 =>
  some (r2,0)))
def Qb : Option Bool :=
  Option.bind (Ur (Ju.mk 2024 3 1)) (fun r1 =>
  Option.bind (Vx [(Ka.mk k_a 2 10 5 0)] 0) (fun r2 =>
  Option.bind (Ut [(Od.mk k_r 3000)] k_r 6000) (fun r3 =>
  some ((((((decide (r1.2 = 0)) && (decide (r2.2 = 0))) && (decide (r3.2 = 0))) && (decide (r1.1 = 60))) && (decide (r2.1 = 25))) && (decide (r3.1 = 125))))))
def Gb (j3 : (List ByteArray) → Int → Option Bool) : List Df → Nat → (List ByteArray) → Int → Option Bool
  | [],_,x1,x2=>j3 x1 x2
  | y2 :: ys2,i2,x1,x2=>Chk (Ti x1.length) (
  Gb j3 ys2 (i2 + 1) (x1 ++ [y2.Who]) (Yc x2 y2.Heat))
def Gi (r1 : Ln × Int) (r3 : (List An) × Int) (j1 : Option Bool) : List Dg → Nat → Option Bool
  | [],_=>j1
  | y1 :: ys1,i1=>Gd (Gi r1 r3 j1 ys1 (i1 + 1)) (fun j2 =>
  Option.bind (Sv r1.1 (El.mk 1 3 1 2) r3.1 y1.Key 60) (fun r4 =>
  if !decide (r4.2 = 0) then
  some false
  else
  Gd (fun (x1 : List ByteArray) (x2 : Int) =>
  if decide (x2 = 0) then
  j2
  else
  Option.bind (Me [(Ka.mk y1.Key x2 100 20 0)] 0) (fun r5 =>
  Gd (fun (c1 : Bool) =>
  if c1 then
  some false
  else
  Option.bind (Nb x1) (fun r7 =>
  Option.bind (Lo r7) (fun r8 =>
  if !decide ((r8.length : Int) = (r4.1.length : Int)) then
  some false
  else
  j2))) (fun j4 =>
  if ((!decide (r5.2 = 0)) || (!decide ((r5.1.length : Int) = x2))) then j4 (((!decide (r5.2 = 0)) || (!decide ((r5.1.length : Int) = x2))) || true) else Option.bind (Qa (El.mk 1 3 1 2) r4.1) (fun r6 =>
  j4 (((!decide (r5.2 = 0)) || (!decide ((r5.1.length : Int) = x2))) || (!decide (r6 = 0))))))) (fun j3 =>
  Gb j3 r4.1 0 ([] : List ByteArray) 0)))
def Lv (p_l : List Int) : Option Bool :=
  Option.bind (Ol p_l 0) (fun r1 =>
  Option.bind (Kq p_l r1.2 4 16) (fun r2 =>
  Option.bind (Nr p_l r2.2 r2.1) (fun r3 =>
  Gd (Option.bind (Qb) (fun r9 =>
  some r9)) (fun j1 =>
  Gi r1 r3 j1 r1.1.Races 0))))
theorem twin_eqs : True:=by
  have h:=@Ih.eq_def; clear h; have h:=@Ih.eq_1; clear h; have h:=@Ih.eq_2; clear h
  have h:=@Hu.eq_def; clear h; have h:=@Hu.eq_1; clear h; have h:=@Hu.eq_2; clear h
  have h:=@Hc.eq_def; clear h; have h:=@Hc.eq_1; clear h; have h:=@Hc.eq_2; clear h
  have h:=@Di.eq_def; clear h; have h:=@Di.eq_1; clear h; have h:=@Di.eq_2; clear h
  have h:=@Du.eq_def; clear h; have h:=@Du.eq_1; clear h; have h:=@Du.eq_2; clear h
  have h:=@Eg.eq_def; clear h; have h:=@Eg.eq_1; clear h; have h:=@Eg.eq_2; clear h
  have h:=@Ez.eq_def; clear h; have h:=@Ez.eq_1; clear h; have h:=@Ez.eq_2; clear h
  have h:=@Eh.eq_def; clear h; have h:=@Eh.eq_1; clear h; have h:=@Eh.eq_2; clear h
  have h:=@Kd.eq_def; clear h; have h:=@Kd.eq_1; clear h; have h:=@Kd.eq_2; clear h
  have h:=@Jd.eq_def; clear h; have h:=@Jd.eq_1; clear h; have h:=@Jd.eq_2; clear h
  have h:=@Dq.eq_def; clear h; have h:=@Dq.eq_1; clear h; have h:=@Dq.eq_2; clear h
  have h:=@Gg.eq_def; clear h; have h:=@Gg.eq_1; clear h; have h:=@Gg.eq_2; clear h
  have h:=@Gv.eq_def; clear h; have h:=@Gv.eq_1; clear h; have h:=@Gv.eq_2; clear h
  have h:=@Hv.eq_def; clear h; have h:=@Hv.eq_1; clear h; have h:=@Hv.eq_2; clear h
  have h:=@Ei.eq_def; clear h; have h:=@Ei.eq_1; clear h; have h:=@Ei.eq_2; clear h
  have h:=@Hw.eq_def; clear h; have h:=@Hw.eq_1; clear h; have h:=@Hw.eq_2; clear h
  have h:=@Jg.eq_def; clear h; have h:=@Jg.eq_1; clear h; have h:=@Jg.eq_2; clear h
  have h:=@Lt.eq_def; clear h; have h:=@Lt.eq_1; clear h; have h:=@Lt.eq_2; clear h
  have h:=@Gm.eq_def; clear h; have h:=@Gm.eq_1; clear h; have h:=@Gm.eq_2; clear h
  have h:=@Ho.eq_def; clear h; have h:=@Ho.eq_1; clear h; have h:=@Ho.eq_2; clear h
  have h:=@Im.eq_def; clear h; have h:=@Im.eq_1; clear h; have h:=@Im.eq_2; clear h
  have h:=@Jm.eq_def; clear h; have h:=@Jm.eq_1; clear h; have h:=@Jm.eq_2; clear h
  have h:=@Lu.eq_def; clear h; have h:=@Lu.eq_1; clear h; have h:=@Lu.eq_2; clear h
  have h:=@Er.eq_def; clear h; have h:=@Er.eq_1; clear h; have h:=@Er.eq_2; clear h
  have h:=@Dk.eq_def; clear h; have h:=@Dk.eq_1; clear h; have h:=@Dk.eq_2; clear h
  have h:=@Dx.eq_def; clear h; have h:=@Dx.eq_1; clear h; have h:=@Dx.eq_2; clear h
  have h:=@Et.eq_def; clear h; have h:=@Et.eq_1; clear h; have h:=@Et.eq_2; clear h
  have h:=@Jf.eq_def; clear h; have h:=@Jf.eq_1; clear h; have h:=@Jf.eq_2; clear h
  have h:=@Jo.eq_def; clear h; have h:=@Jo.eq_1; clear h; have h:=@Jo.eq_2; clear h
  have h:=@Kb.eq_def; clear h; have h:=@Kb.eq_1; clear h; have h:=@Kb.eq_2; clear h
  have h:=@Iq.eq_def; clear h; have h:=@Iq.eq_1; clear h; have h:=@Iq.eq_2; clear h
  have h:=@Mp.eq_def; clear h; have h:=@Mp.eq_1; clear h; have h:=@Mp.eq_2; clear h
  have h:=@Dm.eq_def; clear h; have h:=@Dm.eq_1; clear h; have h:=@Dm.eq_2; clear h
  have h:=@Ea.eq_def; clear h; have h:=@Ea.eq_1; clear h; have h:=@Ea.eq_2; clear h
  have h:=@Em.eq_def; clear h; have h:=@Em.eq_1; clear h; have h:=@Em.eq_2; clear h
  have h:=@Fl.eq_def; clear h; have h:=@Fl.eq_1; clear h; have h:=@Fl.eq_2; clear h
  have h:=@En.eq_def; clear h; have h:=@En.eq_1; clear h; have h:=@En.eq_2; clear h
  have h:=@Lk.eq_def; clear h; have h:=@Lk.eq_1; clear h; have h:=@Lk.eq_2; clear h
  have h:=@Eb.eq_def; clear h; have h:=@Eb.eq_1; clear h; have h:=@Eb.eq_2; clear h
  have h:=@Ec.eq_def; clear h; have h:=@Ec.eq_1; clear h; have h:=@Ec.eq_2; clear h
  have h:=@Ew.eq_def; clear h; have h:=@Ew.eq_1; clear h; have h:=@Ew.eq_2; clear h
  have h:=@Ly.eq_def; clear h; have h:=@Ly.eq_1; clear h; have h:=@Ly.eq_2; clear h
  have h:=@Lz.eq_def; clear h; have h:=@Lz.eq_1; clear h; have h:=@Lz.eq_2; clear h
  have h:=@Ns.eq_def; clear h; have h:=@Ns.eq_1; clear h; have h:=@Ns.eq_2; clear h
  have h:=@Nt.eq_def; clear h; have h:=@Nt.eq_1; clear h; have h:=@Nt.eq_2; clear h
  have h:=@Nu.eq_def; clear h; have h:=@Nu.eq_1; clear h; have h:=@Nu.eq_2; clear h
  have h:=@Nv.eq_def; clear h; have h:=@Nv.eq_1; clear h; have h:=@Nv.eq_2; clear h
  have h:=@Nw.eq_def; clear h; have h:=@Nw.eq_1; clear h; have h:=@Nw.eq_2; clear h
  have h:=@Iv.eq_def; clear h; have h:=@Iv.eq_1; clear h; have h:=@Iv.eq_2; clear h
  have h:=@Jh.eq_def; clear h; have h:=@Jh.eq_1; clear h; have h:=@Jh.eq_2; clear h
  have h:=@Ji.eq_def; clear h; have h:=@Ji.eq_1; clear h; have h:=@Ji.eq_2; clear h
  have h:=@Jp.eq_def; clear h; have h:=@Jp.eq_1; clear h; have h:=@Jp.eq_2; clear h
  have h:=@Fw.eq_def; clear h; have h:=@Fw.eq_1; clear h; have h:=@Fw.eq_2; clear h
  have h:=@Fx.eq_def; clear h; have h:=@Fx.eq_1; clear h; have h:=@Fx.eq_2; clear h
  have h:=@Gz.eq_def; clear h; have h:=@Gz.eq_1; clear h; have h:=@Gz.eq_2; clear h
  have h:=@Hx.eq_def; clear h; have h:=@Hx.eq_1; clear h; have h:=@Hx.eq_2; clear h
  have h:=@Hy.eq_def; clear h; have h:=@Hy.eq_1; clear h; have h:=@Hy.eq_2; clear h
  have h:=@Kz.eq_def; clear h; have h:=@Kz.eq_1; clear h; have h:=@Kz.eq_2; clear h
  have h:=@La.eq_def; clear h; have h:=@La.eq_1; clear h; have h:=@La.eq_2; clear h
  have h:=@Lb.eq_def; clear h; have h:=@Lb.eq_1; clear h; have h:=@Lb.eq_2; clear h
  have h:=@Jq.eq_def; clear h; have h:=@Jq.eq_1; clear h; have h:=@Jq.eq_2; clear h
  have h:=@Lc.eq_def; clear h; have h:=@Lc.eq_1; clear h; have h:=@Lc.eq_2; clear h
  have h:=@Mq.eq_def; clear h; have h:=@Mq.eq_1; clear h; have h:=@Mq.eq_2; clear h
  have h:=@Mr.eq_def; clear h; have h:=@Mr.eq_1; clear h; have h:=@Mr.eq_2; clear h
  have h:=@Gb.eq_def; clear h; have h:=@Gb.eq_1; clear h; have h:=@Gb.eq_2; clear h
  have h:=@Gi.eq_def; clear h; have h:=@Gi.eq_1; clear h; have h:=@Gi.eq_2; clear h
  trivial
end
end Go.Proofs.YtdndpbbimcilpaaGreatDoor
