/- The Go functions as plain Lean functions,by program. -/
import Derived.Test.YtjofndbcioknfaaGreatDoorBase
namespace Go.Proofs.YtjofndbcioknfaaGreatDoor
open Go
noncomputable section
structure VF where
  L : List Int
  at_ : Int
  deriving DecidableEq,Inhabited
structure Eu where
  Key : ByteArray
  Metres : Int
  Stroke : Int
  Course : Int
  Legs : Int
  Sex : Int
  Young : Int
  Old : Int
  deriving DecidableEq,Inhabited
structure Nh where
  Points : List Int
  Relay : Int
  Most : Int
  deriving DecidableEq,Inhabited
structure Uu where
  Size : Int
  Many : Int
  Reserves : Int
  deriving DecidableEq,Inhabited
structure Ni where
  Races : List Eu
  Table : Nh
  Final : Uu
  deriving DecidableEq,Inhabited
structure Eg where
  Site : ByteArray
  No : Int
  At : Int
  Kind : Int
  Who : ByteArray
  Club : ByteArray
  Race : ByteArray
  Time : Int
  Fault : Int
  Of : ByteArray
  Other : Int
  deriving DecidableEq,Inhabited
structure Lm where
  p_ : Ni
  deeds_ : List Eg
  deriving DecidableEq,Inhabited
structure Fm where
  site_ : ByteArray
  no_ : Int
  deriving DecidableEq,Inhabited
structure Fo where
  Num : Int
  Den : Int
  deriving DecidableEq,Inhabited
structure Jy where
  Rank : Int
  Who : ByteArray
  Club : ByteArray
  Time : Int
  Fault : Int
  Points : Fo
  deriving DecidableEq,Inhabited
structure Kq where
  Who : ByteArray
  Time : Int
  deriving DecidableEq,Inhabited
structure Jm where
  Who : ByteArray
  Fault : Int
  Reports : List ByteArray
  deriving DecidableEq,Inhabited
structure Ej where
  Who : ByteArray
  Rank : Int
  Time : Int
  Fault : Int
  deriving DecidableEq,Inhabited
structure Eh where
  Race : ByteArray
  Who : ByteArray
  Club : ByteArray
  Rank : Int
  Relay : Bool
  deriving DecidableEq,Inhabited
structure Ge where
  race_ : ByteArray
  who_ : ByteArray
  deriving DecidableEq,Inhabited
structure Lw where
  Key : ByteArray
  Points : Fo
  deriving DecidableEq,Inhabited
structure En where
  x_ : Eh
  points_ : Fo
  deriving DecidableEq,Inhabited
structure Mw where
  Key : ByteArray
  Race : ByteArray
  Clubs : List ByteArray
  Young : Int
  Old : Int
  deriving DecidableEq,Inhabited
structure Ex where
  At : Int
  Kind : Int
  Id : ByteArray
  Who : ByteArray
  Club : ByteArray
  Race : ByteArray
  Age : Int
  Time : Int
  deriving DecidableEq,Inhabited
structure Ep where
  s_ : Ex
  sure_ : Bool
  void_ : Bool
  deriving DecidableEq,Inhabited
structure Hp where
  Kind : ByteArray
  Id : ByteArray
  Who : ByteArray
  Time : Int
  Since : Int
  Sure : Bool
  deriving DecidableEq,Inhabited
structure Nv where
  Year : Int
  Month : Int
  Day : Int
  deriving DecidableEq,Inhabited
structure Oy where
  Key : ByteArray
  Heats : Int
  Long : Int
  Gap : Int
  Break : Int
  deriving DecidableEq,Inhabited
structure Vv where
  From : Int
  To : Int
  deriving DecidableEq,Inhabited
structure Lx where
  Item : ByteArray
  Heat : Int
  Time : Vv
  deriving DecidableEq,Inhabited
structure Sw where
  Race : ByteArray
  Time : Int
  deriving DecidableEq,Inhabited
def An : ByteArray:=⟨#[]⟩
def Qr : ByteArray:=⟨#[114,97]⟩
def Tq : ByteArray:=⟨#[114,98]⟩
def Wi : ByteArray:=⟨#[114,99]⟩
def Uh : ByteArray:=⟨#[115,97]⟩
def HH : ByteArray:=⟨#[115,98]⟩
def Xm : ByteArray:=⟨#[97,110,110]⟩
def AR : ByteArray:=⟨#[98,101,97]⟩
def AS : ByteArray:=⟨#[99,105,100]⟩
def AU : ByteArray:=⟨#[100,97,110]⟩
def RJ : ByteArray:=⟨#[114,122]⟩
def Wj : ByteArray:=⟨#[98,108,117,101]⟩
def FZ : ByteArray:=⟨#[114,101,100]⟩
def k_A : ByteArray:=⟨#[65]⟩
def Lu : ByteArray:=⟨#[97,98,99,100,101,102,103,104,105,106,107,108,109,110,111,112,113,114,115,116,117,118,119,120,121,122]⟩
def Je : ByteArray:=⟨#[97,98,99,100,101,102,103,104,105,106,107,108,109,110,111,112,113,114,115,116,117,118,119,120,121,122,48,49,50,51,52,53,54,55,56,57,45,95]⟩
def Rg : ByteArray:=⟨#[0,1,2,2,3,3,3,3,4,4,4,4,4,4,4,4,5,5,5,5,5,5,5,5,5,5,5,5,5,5,5,5,6,6,6,6,6,6,6,6,6,6,6,6,6,6,6,6,6,6,6,6,6,6,6,6,6,6,6,6,6,6,6,6,7,7,7,7,7,7,7,7,7,7,7,7,7,7,7,7,7,7,7,7,7,7,7,7,7,7,7,7,7,7,7,7,7,7,7,7,7,7,7,7,7,7,7,7,7,7,7,7,7,7,7,7,7,7,7,7,7,7,7,7,7,7,7,7,8,8,8,8,8,8,8,8,8,8,8,8,8,8,8,8,8,8,8,8,8,8,8,8,8,8,8,8,8,8,8,8,8,8,8,8,8,8,8,8,8,8,8,8,8,8,8,8,8,8,8,8,8,8,8,8,8,8,8,8,8,8,8,8,8,8,8,8,8,8,8,8,8,8,8,8,8,8,8,8,8,8,8,8,8,8,8,8,8,8,8,8,8,8,8,8,8,8,8,8,8,8,8,8,8,8,8,8,8,8,8,8,8,8,8,8,8,8,8,8,8,8,8,8,8,8,8,8]⟩
def Qp : ByteArray:=⟨#[32]⟩
def k_k : ByteArray:=⟨#[107]⟩
def k_a : ByteArray:=⟨#[97]⟩
def k_r : ByteArray:=⟨#[114]⟩
def Rq (p_x : Int) (p_n : Int) : Option Int :=
  if decide (p_n < 1) then
  some 0
  else
  Chk (!decide (p_n = 0)) (
  Hc (fun (x1 : Int) =>
  some x1) (fun j1 =>
  if decide ((Int.tmod p_x p_n) < 0) then
  j1 (W ((Int.tmod p_x p_n) + p_n))
  else
  j1 (Int.tmod p_x p_n)))
def Ri (p_s_L : List Int) (p_s_at : Int) (p_n : Int) : Option (Int × Int) :=
  if decide ((p_s_L.length : Int) = 0) then
  Option.bind (Rq (W ((W (p_s_at + 1)) * 7919)) p_n) (fun r1 =>
  some (r1,W (p_s_at + 1)))
  else
  Chk (!decide ((p_s_L.length : Int) = 0)) (
  Chk (!decide ((p_s_L.length : Int) = 0)) (
  Chk (inB (Int.tmod (W ((W (p_s_at + 1)) - 1)) (p_s_L.length : Int)) p_s_L.length) (
  Option.bind (Rq (nth p_s_L (Int.tmod (W ((W (p_s_at + 1)) - 1)) (p_s_L.length : Int))) 1073741824) (fun r2 =>
  Option.bind (Rq (W (r2 + (W ((W (Int.tdiv (W ((W (p_s_at + 1)) - 1)) (p_s_L.length : Int))) * (W (7919 + (Int.tmod (W ((W (p_s_at + 1)) - 1)) (p_s_L.length : Int)))))))) p_n) (fun r3 =>
  some (r3,W (p_s_at + 1)))))))
def Ts (p_s_L : List Int) (p_s_at : Int) (p_n : Int) : Option (Bool × Int) :=
  Option.bind (Ri p_s_L p_s_at p_n) (fun r1 =>
  some (decide (r1.1 = 0),r1.2))
def Kr (p_s_L : List Int) (p_s_at : Int) (p_l : List Int) : Option (Int × Int) :=
  Option.bind (Ri p_s_L p_s_at (p_l.length : Int)) (fun r1 =>
  Chk (inB r1.1 p_l.length) (
  some ((nth p_l r1.1),r1.2)))
def Ui (p_s_L : List Int) (p_s_at : Int) (p_key : ByteArray) : Option (Eu × Int) :=
  Option.bind (Kr p_s_L p_s_at [50,100,200]) (fun r1 =>
  Option.bind (Kr p_s_L r1.2 [1,2,3,4]) (fun r2 =>
  Option.bind (Kr p_s_L r2.2 [25,50]) (fun r3 =>
  Option.bind (Kr p_s_L r3.2 [1,1,1,4]) (fun r4 =>
  Option.bind (Kr p_s_L r4.2 [0,1,2]) (fun r5 =>
  Option.bind (Kr p_s_L r5.2 [0,0,5,10]) (fun r6 =>
  Option.bind (Kr p_s_L r6.2 [0,5,90]) (fun r7 =>
  some ((Eu.mk p_key r1.1 r2.1 r3.1 r4.1 r5.1 r6.1 (W (r6.1 + r7.1))),r7.2))))))))
def Lq (p_s_L : List Int) (j1 : (List Eu) → Int → Option ((List Eu) × Int)) : List ByteArray → Nat → (List Eu) → Int → Option ((List Eu) × Int)
  | [],_,x1,x2=>j1 x1 x2
  | y1 :: ys1,i1,x1,x2=>Hc (fun (x3 : List Eu) (x4 : Int) =>
  Lq p_s_L j1 ys1 (i1 + 1) x3 x4) (fun j2 =>
  Option.bind (Ts p_s_L x2 6) (fun r1 =>
  Hc (fun (x5 : List Eu) (x6 : Int) =>
  j2 x5 x6) (fun j3 =>
  if !r1.1 then
  Option.bind (Ui p_s_L r1.2 y1) (fun r2 =>
  Chk (Sb x1.length) (
  j3 (x1 ++ [r2.1]) r2.2))
  else
  j3 x1 r1.2)))
def Vw (p_s_L : List Int) (p_s_at : Int) : Option ((List Eu) × Int) :=
  Hc (fun (x1 : List Eu) (x2 : Int) =>
  some (x1,x2)) (fun j1 =>
  Lq p_s_L j1 ([Qr,Tq,Wi] : List ByteArray) 0 ([] : List Eu) p_s_at)
def Ou (p_s_L : List Int) (p_s_at : Int) (p_low : Int) (p_high : Int) : Option (Int × Int) :=
  if decide (p_high < p_low) then
  some (p_low,p_s_at)
  else
  Option.bind (Ri p_s_L p_s_at (W ((W (p_high - p_low)) + 1))) (fun r1 =>
  some (W (p_low + r1.1),r1.2))
def Kx (r4 : Int × Int) (p_s_L : List Int) (j1 : (List Int) → Int → Option (Nh × Int)) : Nat → (List Int) → Int → Int → Int → Option (Nh × Int)
  | 0,_,_,_,_=>none
  | m1 + 1,x1,x2,x3,x4=>if decide (x4 < r4.1) then
  Chk (Sb x1.length) (
  Option.bind (Kr p_s_L x2 [0,1,2,3]) (fun r5 =>
  Kx r4 p_s_L j1 m1 (x1 ++ [x3]) r5.2 (HA 0 (W (x3 - r5.1))) (W (x4 + 1))))
  else
  j1 x1 x2
def Si (p_s_L : List Int) (p_s_at : Int) : Option (Nh × Int) :=
  Option.bind (Kr p_s_L p_s_at [1,2]) (fun r1 =>
  Option.bind (Kr p_s_L r1.2 [0,0,1,2]) (fun r2 =>
  Option.bind (Kr p_s_L r2.2 [10,9,7,5]) (fun r3 =>
  Option.bind (Ou p_s_L r3.2 0 5) (fun r4 =>
  Hc (fun (x1 : List Int) (x2 : Int) =>
  some ((Nh.mk x1 r1.1 r2.1),x2)) (fun j1 =>
  Kx r4 p_s_L j1 ((r4.1 - 0).toNat + 2) ([] : List Int) r4.2 r3.1 0)))))
def Kd (j1 : (List Eu) → Option (List Eu)) : Nat → (List Eu) → Int → Int → Option (List Eu)
  | 0,_,_,_=>none
  | m1 + 1,x1,x2,x3=>if decide (x2 < x3) then
  Chk (inB x3 x1.length) (
  Chk (inB x2 x1.length) (
  Chk (inB x2 x1.length) (
  Chk (inB x3 (x1.set x2.toNat (nth x1 x3)).length) (
  Kd j1 m1 ((x1.set x2.toNat (nth x1 x3)).set x3.toNat (nth x1 x2)) (W (x2 + 1)) (W (x3 - 1))))))
  else
  j1 x1
def Qz (p_s : List Eu) : Option (List Eu) :=
  Hc (fun (x1 : List Eu) =>
  some x1) (fun j1 =>
  Kd j1 (((W ((p_s.length : Int) - 1)) - 0).toNat + 2) p_s 0 (W ((p_s.length : Int) - 1)))
def Tf (p_s_L : List Int) (p_s_at : Int) : Option (Ni × Int) :=
  Option.bind (Vw p_s_L p_s_at) (fun r1 =>
  Option.bind (Si p_s_L r1.2) (fun r2 =>
  Option.bind (Ou p_s_L r2.2 1 3) (fun r3 =>
  Option.bind (Ou p_s_L r3.2 1 2) (fun r4 =>
  Option.bind (Ou p_s_L r4.2 0 2) (fun r5 =>
  Option.bind (Qz r1.1) (fun r6 =>
  some ((Ni.mk r6 r2.1 (Uu.mk r3.1 r4.1 r5.1)),r5.2)))))))
def Pd (p_s_L : List Int) (p_s_at : Int) (p_l : List ByteArray) : Option (ByteArray × Int) :=
  Option.bind (Ri p_s_L p_s_at (p_l.length : Int)) (fun r1 =>
  Chk (inB r1.1 p_l.length) (
  some ((nth p_l r1.1),r1.2)))
def Tv (p_s_L : List Int) (p_s_at : Int) (p_low : Int) (p_high : Int) : Option (Int × Int) :=
  Option.bind (Ts p_s_L p_s_at 12) (fun r1 =>
  if r1.1 then
  Option.bind (Kr p_s_L r1.2 [W (p_low - 1),W (p_high + 1),p_low,p_high,(-1099511627776),1099511627776]) (fun r2 =>
  some (r2.1,r2.2))
  else
  Option.bind (Ou p_s_L r1.2 p_low p_high) (fun r3 =>
  some (r3.1,r3.2)))
def Wo (p_n : Int) : Int :=
  if decide (p_n < 0) then
  (-1)
  else
  if decide (0 < p_n) then
  1
  else
  0
def Ho (s t : ByteArray) : Int:=Lib.compareBytes s.data.toList t.data.toList
def Ko (p_a : Eg) (p_b : Eg) : Int :=
  if !decide (p_a.At = p_b.At) then
  (Wo (W (p_a.At - p_b.At)))
  else
  if !decide (p_a.Site = p_b.Site) then
  (Ho p_a.Site p_b.Site)
  else
  (Wo (W (p_a.No - p_b.No)))
def Fh (p_a : Int) (j2 : (List Eg) → Option (List Eg)) : Nat → (List Eg) → Int → Option (List Eg)
  | 0,_,_=>none
  | m2 + 1,x3,x4=>Hc (fun (x5 : Bool) =>
  if x5 then
  Chk (inB (W (x4 - 1)) x3.length) (
  Chk (inB x4 x3.length) (
  Chk (inB x4 x3.length) (
  Chk (inB (W (x4 - 1)) (x3.set x4.toNat (nth x3 (W (x4 - 1)))).length) (
  Fh p_a j2 m2 ((x3.set x4.toNat (nth x3 (W (x4 - 1)))).set ((W (x4 - 1)).toNat) (nth x3 x4)) (W (x4 - 1))))))
  else
  j2 x3) (fun j3 =>
  if decide (p_a < x4) then
  Chk (inB x4 x3.length) (
  Chk (inB (W (x4 - 1)) x3.length) (
  j3 (decide ((Ko (nth x3 x4) (nth x3 (W (x4 - 1)))) < 0))))
  else
  j3 false)
def Fy (p_b : Int) (p_a : Int) (j1 : (List Eg) → Option (List Eg)) : Nat → (List Eg) → Int → Option (List Eg)
  | 0,_,_=>none
  | m1 + 1,x1,x2=>if decide (x2 < p_b) then
  Hc (fun (x3 : List Eg) =>
  Fy p_b p_a j1 m1 x3 (W (x2 + 1))) (fun j2 =>
  Fh p_a j2 ((x2 - p_a).toNat + 2) x1 x2)
  else
  j1 x1
def Ic (p_data : List Eg) (p_a : Int) (p_b : Int) : Option (List Eg) :=
  Hc (fun (x1 : List Eg) =>
  some x1) (fun j1 =>
  Fy p_b p_a j1 ((p_b - (W (p_a + 1))).toNat + 2) p_data (W (p_a + 1)))
def Gp (p_n : Int) (j1 : (List Eg) → Int → Option (List Eg)) : Nat → (List Eg) → Int → Int → Option (List Eg)
  | 0,_,_,_=>none
  | m1 + 1,x1,x2,x3=>if decide (x3 ≤ p_n) then
  Option.bind (Ic x1 x2 x3) (fun r1 =>
  Gp p_n j1 m1 r1 x3 (W (x3 + 20)))
  else
  j1 x1 x2
def Ht (p_n : Int) (j3 : Int → Option (List Eg)) : Nat → Int → Int → Option (List Eg)
  | 0,_,_=>none
  | _ + 1,x5,x6=>if decide (x6 ≤ p_n) then
  none
  else
  j3 x5
def Gq (p_n : Int) (j2 : Option (List Eg)) : Nat → Int → Option (List Eg)
  | 0,_=>none
  | m2 + 1,x4=>if decide (x4 < p_n) then
  Hc (fun (x5 : Int) =>
  if decide ((W (x5 + x4)) < p_n) then
  none
  else
  Gq p_n j2 m2 (W (x4 * 2))) (fun j3 =>
  Ht p_n j3 ((p_n - (W (2 * x4))).toNat + 2) 0 (W (2 * x4)))
  else
  j2
def Kj (p_data : List Eg) (p_n : Int) : Option (List Eg) :=
  Hc (fun (x1 : List Eg) (x2 : Int) =>
  Option.bind (Ic x1 x2 p_n) (fun r2 =>
  Hc (some r2) (fun j2 =>
  Gq p_n j2 ((p_n - 20).toNat + 2) 20))) (fun j1 =>
  Gp p_n j1 ((p_n - 20).toNat + 2) p_data 0 20)
def Iu (p_x : List Eg) : Option (List Eg) :=
  Option.bind (Kj p_x (p_x.length : Int)) (fun r1 =>
  some r1)
def Od (p_many : Int) (p_s_L : List Int) (j1 : (List (ByteArray × Int)) → (List Eg) → Int → Option ((List Eg) × Int)) : Nat → (List (ByteArray × Int)) → (List Eg) → Int → Int → Int → Option ((List Eg) × Int)
  | 0,_,_,_,_,_=>none
  | m1 + 1,x1,x2,x3,x4,x5=>if decide (x5 < p_many) then
  Option.bind (Kr p_s_L x3 [0,1,5]) (fun r1 =>
  Option.bind (Pd p_s_L r1.2 [Uh,Uh,HH]) (fun r2 =>
  Option.bind (Kr p_s_L r2.2 [1,1,1,3,3,3,2,4]) (fun r3 =>
  Hc (fun (x6 : ByteArray) (x7 : ByteArray) (x8 : Int) =>
  Hc (fun (x9 : ByteArray) (x10 : Int) (x11 : Int) (x12 : ByteArray) (x13 : Int) (x14 : Int) =>
  Option.bind (Ts p_s_L x14 100) (fun r12 =>
  Hc (fun (x29 : ByteArray) (x30 : Int) (x31 : Int) (x32 : ByteArray) (x33 : ByteArray) (x34 : ByteArray) (x35 : Int) (x36 : Int) (x37 : Int) (x38 : Int) =>
  Chk (Sb x2.length) (
  Od p_many p_s_L j1 m1 (Hj x1 r2.1 (W ((Et x1 r2.1 0) + 1))) (x2 ++ [(Eg.mk x29 x30 (W (x4 + r1.1)) x31 x32 x33 x34 x35 x36 x12 x37)]) x38 (W (x4 + r1.1)) (W (x5 + 1)))) (fun j7 =>
  if r12.1 then
  Option.bind (Ri p_s_L r12.2 4) (fun r13 =>
  Hc (fun (x39 : ByteArray) (x40 : Int) (x41 : Int) (x42 : ByteArray) (x43 : ByteArray) (x44 : ByteArray) (x45 : Int) (x46 : Int) (x47 : Int) (x48 : Int) =>
  j7 x39 x40 x41 x42 x43 x44 x45 x46 x47 x48) (fun j8 =>
  Hc (fun (x49 : ByteArray) (x50 : Int) (x51 : Int) (x52 : ByteArray) (x53 : ByteArray) (x54 : ByteArray) (x55 : Int) (x56 : Int) (x57 : Int) (x58 : Int) =>
  j8 x49 x50 x51 x52 x53 x54 x55 x56 x57 x58) (fun j9 =>
  if decide (r13.1 = 0) then
  Option.bind (Pd p_s_L r13.2 [An,Uh]) (fun r14 =>
  Option.bind (Tv p_s_L r14.2 1 9) (fun r15 =>
  j9 r14.1 r15.1 r3.1 x6 x9 x7 x10 x11 x13 r15.2))
  else
  Hc (fun (x59 : Int) (x60 : ByteArray) (x61 : ByteArray) (x62 : ByteArray) (x63 : Int) (x64 : Int) (x65 : Int) (x66 : Int) =>
  j9 r2.1 (Et (Hj x1 r2.1 (W ((Et x1 r2.1 0) + 1))) r2.1 0) x59 x60 x61 x62 x63 x64 x65 x66) (fun j10 =>
  if decide (r13.1 = 1) then
  Option.bind (Tv p_s_L r13.2 1 4) (fun r16 =>
  j10 r16.1 x6 x9 x7 x10 x11 x13 r16.2)
  else
  Hc (fun (x67 : ByteArray) (x68 : ByteArray) (x69 : ByteArray) (x70 : Int) (x71 : Int) (x72 : Int) (x73 : Int) =>
  j10 r3.1 x67 x68 x69 x70 x71 x72 x73) (fun j11 =>
  if decide (r13.1 = 2) then
  Option.bind (Pd p_s_L r13.2 [An,Xm]) (fun r17 =>
  Option.bind (Pd p_s_L r17.2 [k_A,Wj]) (fun r18 =>
  Option.bind (Pd p_s_L r18.2 [An,Qr]) (fun r19 =>
  j11 r17.1 r18.1 r19.1 x10 x11 x13 r19.2)))
  else
  Option.bind (Tv p_s_L r13.2 0 360000) (fun r20 =>
  Option.bind (Tv p_s_L r20.2 0 8) (fun r21 =>
  Option.bind (Tv p_s_L r21.2 0 5) (fun r22 =>
  j11 x6 x9 x7 r20.1 r21.1 r22.1 r22.2))))))))
  else
  j7 r2.1 (Et (Hj x1 r2.1 (W ((Et x1 r2.1 0) + 1))) r2.1 0) r3.1 x6 x9 x7 x10 x11 x13 r12.2))) (fun j3 =>
  Hc (fun (x15 : ByteArray) (x16 : Int) (x17 : Int) (x18 : ByteArray) (x19 : Int) (x20 : Int) =>
  j3 x15 x16 x17 x18 x19 x20) (fun j4 =>
  if decide (r3.1 = 1) then
  Option.bind (Pd p_s_L x8 [Wj,FZ,An]) (fun r6 =>
  Option.bind (Kr p_s_L r6.2 [0,5900,6000,7000]) (fun r7 =>
  j4 r6.1 r7.1 0 An 0 r7.2))
  else
  Hc (fun (x21 : Int) (x22 : Int) (x23 : ByteArray) (x24 : Int) (x25 : Int) =>
  j4 An x21 x22 x23 x24 x25) (fun j5 =>
  if decide (r3.1 = 3) then
  Option.bind (Kr p_s_L x8 [0,5900,5900,6000,6100]) (fun r8 =>
  Option.bind (Kr p_s_L r8.2 [0,0,0,0,3]) (fun r9 =>
  j5 r8.1 r9.1 An 0 r9.2))
  else
  Hc (fun (x26 : ByteArray) (x27 : Int) (x28 : Int) =>
  j5 0 0 x26 x27 x28) (fun j6 =>
  if decide (r3.1 = 4) then
  Option.bind (Pd p_s_L x8 [Uh,Uh,HH]) (fun r10 =>
  Option.bind (Ou p_s_L r10.2 1 (HA 1 (Et (Hj x1 r2.1 (W ((Et x1 r2.1 0) + 1))) Uh 0))) (fun r11 =>
  j6 r10.1 r11.1 r11.2))
  else
  j6 An 0 x8))))) (fun j2 =>
  if !decide (r3.1 = 4) then
  Option.bind (Pd p_s_L r3.2 [Xm,AR,AS,AU]) (fun r4 =>
  Option.bind (Pd p_s_L r4.2 [Qr,Qr,Tq,RJ]) (fun r5 =>
  j2 r4.1 r5.1 r5.2))
  else
  j2 An An r3.2))))
  else
  j1 x1 x2 x3
def Xn (p_s_L : List Int) (p_s_at : Int) (p_many : Int) : Option ((List Eg) × Int) :=
  Hc (fun (x1 : List (ByteArray × Int)) (x2 : List Eg) (x3 : Int) =>
  Option.bind (Iu x2) (fun r23 =>
  some (r23,x3))) (fun j1 =>
  Od p_many p_s_L j1 ((p_many - 0).toNat + 2) ([] : List (ByteArray × Int)) ([] : List Eg) p_s_at 0 0)
def Ln (p_n : Int) (p_low : Int) (p_high : Int) : Bool :=
  ((decide (p_low ≤ p_n)) && (decide (p_n ≤ p_high)))
def Uw (s : ByteArray) (c : Int) : Int:=Lib.indexByte s.data.toList c.toNat.toUInt8
def Ml (p_s : ByteArray) (p_some : ByteArray) (j1 : Option Bool) : Nat → Int → Option Bool
  | 0,_=>none
  | m1 + 1,x1=>if decide (x1 < (p_s.size : Int)) then
  Chk (inB x1 p_s.size) (
  if decide ((Uw p_some (Zz p_s x1)) < 0) then
  some false
  else
  Ml p_s p_some j1 m1 (W (x1 + 1)))
  else
  j1
def Uq (p_s : ByteArray) (p_some : ByteArray) : Option Bool :=
  Hc (some true) (fun j1 =>
  Ml p_s p_some j1 (((p_s.size : Int) - 0).toNat + 2) 0)
def Qi (p_s : ByteArray) : Option Bool :=
  Hc (fun (c1 : Bool) =>
  Hc (fun (c2 : Bool) =>
  some c2) (fun j2 =>
  if c1 then Option.bind (Uq p_s Je) (fun r2 =>
  j2 (c1 && r2)) else j2 (c1 && true))) (fun j1 =>
  if (Ln (p_s.size : Int) 1 40) then Chk (CI 0 1 p_s.size) (
  Option.bind (Uq (OX p_s 0 1) Lu) (fun r1 =>
  j1 ((Ln (p_s.size : Int) 1 40) && r1))) else j1 ((Ln (p_s.size : Int) 1 40) && true))
def Qv (p_at : Int) : Bool :=
  (Ln p_at 0 345686399999)
def Rr (p_d : Eg) : Option Int :=
  Option.bind (Qi p_d.Site) (fun r1 =>
  if !r1 then
  some 5
  else
  if ((!(Ln p_d.No 1 1000000)) || (!(Qv p_d.At))) then
  some 1
  else
  if !(Ln p_d.Kind 1 4) then
  some 4
  else
  Hc (fun (x1 : ByteArray) (x2 : ByteArray) (x3 : ByteArray) (x4 : Int) =>
  Hc (fun (x5 : ByteArray) =>
  Hc (fun (x6 : Int) =>
  Hc (fun (x7 : Int) =>
  if !decide (p_d = (Eg.mk p_d.Site p_d.No p_d.At p_d.Kind x1 x5 x2 x6 x7 x3 x4)) then
  some 3
  else
  some 0) (fun j7 =>
  if decide (p_d.Kind = 3) then
  if !(Ln p_d.Fault 0 8) then
  some 1
  else
  j7 p_d.Fault
  else
  j7 0)) (fun j6 =>
  if ((decide (p_d.Kind = 1)) || (decide (p_d.Kind = 3))) then
  if !(Ln p_d.Time 0 360000) then
  some 1
  else
  j6 p_d.Time
  else
  j6 0)) (fun j5 =>
  if decide (p_d.Kind = 1) then
  j5 p_d.Club
  else
  j5 An)) (fun j1 =>
  if decide (p_d.Kind = 4) then
  Option.bind (Qi p_d.Of) (fun r2 =>
  if !r2 then
  some 5
  else
  if !(Ln p_d.Other 1 1000000) then
  some 1
  else
  j1 An An p_d.Of p_d.Other)
  else
  Option.bind (Qi p_d.Who) (fun r3 =>
  Hc (fun (c1 : Bool) =>
  Hc (fun (c2 : Bool) =>
  if c2 then
  some 5
  else
  j1 p_d.Who p_d.Race An 0) (fun j3 =>
  if c1 then j3 (c1 || true) else Hc (fun (c3 : Bool) =>
  j3 (c1 || c3)) (fun j4 =>
  if ((decide (p_d.Kind = 1)) && (!decide (p_d.Club = An))) then Option.bind (Qi p_d.Club) (fun r5 =>
  j4 (((decide (p_d.Kind = 1)) && (!decide (p_d.Club = An))) && (!r5))) else j4 (((decide (p_d.Kind = 1)) && (!decide (p_d.Club = An))) && true)))) (fun j2 =>
  if (!r3) then j2 ((!r3) || true) else Option.bind (Qi p_d.Race) (fun r4 =>
  j2 ((!r3) || (!r4)))))))
def Wz (p_a : Eg) (p_b : Eg) : Bool :=
  ((decide (p_a.Site = p_b.Site)) && (decide (p_a.No = p_b.No)))
def Pt (p_o : Eg) (p_a1 : Eg) : Bool :=
  (Wz p_o p_a1)
def Fu (p_f_0 : Eg) (j1 : Int) : List Eg → Nat → Int
  | [],_=>j1
  | y1 :: ys1,i1=>if (Pt y1 p_f_0) then
  (i1 : Int)
  else
  Fu p_f_0 j1 ys1 (i1 + 1)
def Mm (p_s : List Eg) (p_f_0 : Eg) : Int :=
  Hc ((-1)) (fun j1 =>
  Fu p_f_0 j1 p_s 0)
def Kc (p_s : List Eg) (p_f_0 : Eg) : Bool :=
  decide (0 ≤ (Mm p_s p_f_0))
def Jf (p_l : List Eg) (j1 : Option Int) : List Eg → Nat → Option Int
  | [],_=>j1
  | y1 :: ys1,i1=>Option.bind (Rr y1) (fun r1 =>
  if !decide (r1 = 0) then
  some r1
  else
  Hc (fun (x1 : Bool) =>
  if x1 then
  some 7
  else
  Jf p_l j1 ys1 (i1 + 1)) (fun j2 =>
  if decide (0 < (i1 : Int)) then
  Chk (inB (W ((i1 : Int) - 1)) p_l.length) (
  j2 (decide (0 ≤ (Ko (nth p_l (W ((i1 : Int) - 1))) y1))))
  else
  j2 false))
def Jv (p_l : List Eg) (j3 : Option Int) : List Eg → Nat → Option Int
  | [],_=>j3
  | y2 :: ys2,i2=>Chk (CI 0 (i2 : Int) p_l.length) (
  if (Kc (cut p_l 0 (i2 : Int)) y2) then
  some 6
  else
  Jv p_l j3 ys2 (i2 + 1))
def Rb (p_l : List Eg) : Option Int :=
  if decide (2000 < (p_l.length : Int)) then
  some 2
  else
  Hc (Hc (some 0) (fun j3 =>
  Jv p_l j3 p_l 0)) (fun j1 =>
  Jf p_l j1 p_l 0)
def Ky (p_s_L : List Int) (p_many : Int) (j1 : Int → Option ((List Eg) × Int)) : Nat → Int → Int → Option ((List Eg) × Int)
  | 0,_,_=>none
  | m1 + 1,x1,x2=>if decide (x2 < 5) then
  Option.bind (Xn p_s_L x1 p_many) (fun r1 =>
  Option.bind (Rb r1.1) (fun r2 =>
  if decide (r2 = 0) then
  some (r1.1,r1.2)
  else
  Ky p_s_L p_many j1 m1 r1.2 (W (x2 + 1))))
  else
  j1 x1
def Sj (p_s_L : List Int) (p_s_at : Int) (p_many : Int) : Option ((List Eg) × Int) :=
  Hc (fun (x1 : Int) =>
  some (([] : List Eg),x1)) (fun j1 =>
  Ky p_s_L p_many j1 7 p_s_at 0)
def Xo (s c : ByteArray) : Option ByteArray :=
  Chk (decide (s.size ≤ 9223372036854775807)) (Chk (decide (c.size < 4294967281)) (Chk (c.data.toList.all fun b=>decide (b.toNat < 128)) (some ⟨(Lib.trimS s.data.toList c.data.toList).toArray⟩)))
def Gy (p_s : ByteArray) : Option Bool :=
  Hc (fun (c1 : Bool) =>
  Hc (fun (c2 : Bool) =>
  Hc (fun (c3 : Bool) =>
  some c3) (fun j3 =>
  if c2 then Option.bind (Xo p_s Je) (fun r1 =>
  j3 (c2 && (decide (r1 = An)))) else j3 (c2 && true))) (fun j2 =>
  if c1 then Chk (inB 0 p_s.size) (
  j2 (c1 && (decide ((Zz p_s 0) ≤ 122)))) else j2 (c1 && true))) (fun j1 =>
  if ((decide (1 ≤ (p_s.size : Int))) && (decide ((p_s.size : Int) ≤ 40))) then Chk (inB 0 p_s.size) (
  j1 (((decide (1 ≤ (p_s.size : Int))) && (decide ((p_s.size : Int) ≤ 40))) && (decide (97 ≤ (Zz p_s 0))))) else j1 (((decide (1 ≤ (p_s.size : Int))) && (decide ((p_s.size : Int) ≤ 40))) && true))
def El (p_n : Int) (p_low : Int) (p_high : Int) : Bool :=
  ((decide (p_low ≤ p_n)) && (decide (p_n ≤ p_high)))
def Pe (p_r : Eu) : Option Int :=
  Option.bind (Gy p_r.Key) (fun r1 =>
  if !r1 then
  some 5
  else
  if ((!(El p_r.Stroke 1 5)) || (!(El p_r.Sex 0 2))) then
  some 4
  else
  if (((((((!decide (p_r.Course = 25)) && (!decide (p_r.Course = 50))) || (!(El p_r.Legs 1 4))) || (!(El p_r.Metres 25 1500))) || (decide (p_r.Young < 0))) || (decide (p_r.Old < p_r.Young))) || (decide (120 < p_r.Old))) then
  some 1
  else
  Chk (!decide (p_r.Course = 0)) (
  if !decide ((Int.tmod p_r.Metres p_r.Course) = 0) then
  some 3
  else
  Hc (fun (c1 : Bool) =>
  Hc (fun (x1 : Bool) =>
  if x1 then
  some 16
  else
  some 0) (fun j2 =>
  if c1 then
  j2 c1
  else
  j2 (((decide (p_r.Stroke = 5)) && (decide (1 < p_r.Legs))) && (!decide (p_r.Legs = 4))))) (fun j1 =>
  if ((decide (p_r.Stroke = 5)) && (decide (p_r.Legs = 1))) then Chk (!decide ((W (4 * p_r.Course)) = 0)) (
  j1 (((decide (p_r.Stroke = 5)) && (decide (p_r.Legs = 1))) && (!decide ((Int.tmod p_r.Metres (W (4 * p_r.Course))) = 0)))) else j1 (((decide (p_r.Stroke = 5)) && (decide (p_r.Legs = 1))) && true))))
def Ux (p_x : Eu) (p_a1 : Eu) : Bool :=
  decide (p_x.Key = p_a1.Key)
def Gu (p_f_0 : Eu) (j1 : Int) : List Eu → Nat → Int
  | [],_=>j1
  | y1 :: ys1,i1=>if (Ux y1 p_f_0) then
  (i1 : Int)
  else
  Gu p_f_0 j1 ys1 (i1 + 1)
def Lt (p_s : List Eu) (p_f_0 : Eu) : Int :=
  Hc ((-1)) (fun j1 =>
  Gu p_f_0 j1 p_s 0)
def Jw (p_s : List Eu) (p_f_0 : Eu) : Bool :=
  decide (0 ≤ (Lt p_s p_f_0))
def Kz (p_t : Nh) (j1 : Option Int) : List Int → Nat → Option Int
  | [],_=>j1
  | y1 :: ys1,i1=>if !(El y1 0 10000) then
  some 1
  else
  Hc (fun (c1 : Bool) =>
  if c1 then
  some 7
  else
  Kz p_t j1 ys1 (i1 + 1)) (fun j2 =>
  if (decide (0 < (i1 : Int))) then Chk (inB (W ((i1 : Int) - 1)) p_t.Points.length) (
  j2 ((decide (0 < (i1 : Int))) && (decide ((nth p_t.Points (W ((i1 : Int) - 1))) < y1)))) else j2 ((decide (0 < (i1 : Int))) && true))
def Pu (p_t : Nh) : Option Int :=
  if decide (40 < (p_t.Points.length : Int)) then
  some 2
  else
  Hc (if ((!(El p_t.Relay 1 10)) || (!(El p_t.Most 0 10))) then
  some 1
  else
  some 0) (fun j1 =>
  Kz p_t j1 p_t.Points 0)
def Sg (p_f : Uu) : Int :=
  if (((!(El p_f.Size 1 10)) || (!(El p_f.Many 1 5))) || (!(El p_f.Reserves 0 10))) then
  1
  else
  0
def Ms (p_p : Ni) (j1 : Option Int) : List Eu → Nat → Option Int
  | [],_=>j1
  | y1 :: ys1,i1=>Option.bind (Pe y1) (fun r1 =>
  if !decide (r1 = 0) then
  some r1
  else
  Chk (CI 0 (i1 : Int) p_p.Races.length) (
  if (Jw (cut p_p.Races 0 (i1 : Int)) y1) then
  some 6
  else
  Ms p_p j1 ys1 (i1 + 1)))
def Vj (p_p : Ni) : Option Int :=
  if decide (100 < (p_p.Races.length : Int)) then
  some 2
  else
  Hc (Option.bind (Pu p_p.Table) (fun r2 =>
  if !decide (r2 = 0) then
  some r2
  else
  some (Sg p_p.Final))) (fun j1 =>
  Ms p_p j1 p_p.Races 0)
def Ji (p_n : Int) : Bool :=
  ((decide (0 ≤ p_n)) && (decide (p_n < 345686400000)))
def Rs (p_x : Eg) : Option Int :=
  Option.bind (Gy p_x.Site) (fun r1 =>
  if !r1 then
  some 5
  else
  if ((!(El p_x.No 1 1000000)) || (!(Ji p_x.At))) then
  some 1
  else
  if !(El p_x.Kind 1 4) then
  some 4
  else
  Hc (fun (c1 : Bool) =>
  Hc (fun (x1 : Bool) =>
  if x1 then
  some 5
  else
  Hc (fun (x2 : Bool) =>
  if x2 then
  some 1
  else
  Hc (fun (c4 : Bool) =>
  if c4 then
  some 5
  else
  if ((decide (p_x.Kind = 4)) && (!(El p_x.Other 1 1000000))) then
  some 1
  else
  Hc (fun (x3 : ByteArray) (x4 : ByteArray) (x5 : ByteArray) (x6 : Int) (x7 : Int) (x8 : ByteArray) (x9 : Int) =>
  if !decide (p_x = (Eg.mk p_x.Site p_x.No p_x.At p_x.Kind x3 x4 x5 x6 x7 x8 x9)) then
  some 3
  else
  some 0) (fun j7 =>
  Hc (fun (x10 : ByteArray) (x11 : ByteArray) (x12 : ByteArray) (x13 : Int) (x14 : Int) (x15 : ByteArray) (x16 : Int) =>
  j7 x10 x11 x12 x13 x14 x15 x16) (fun j8 =>
  if decide (p_x.Kind = 1) then
  j8 p_x.Who p_x.Club p_x.Race p_x.Time 0 An 0
  else
  Hc (fun (x17 : ByteArray) (x18 : ByteArray) (x19 : Int) (x20 : Int) (x21 : ByteArray) (x22 : Int) =>
  j8 x17 An x18 x19 x20 x21 x22) (fun j9 =>
  if decide (p_x.Kind = 3) then
  j9 p_x.Who p_x.Race p_x.Time p_x.Fault An 0
  else
  Hc (fun (x23 : ByteArray) (x24 : ByteArray) (x25 : ByteArray) (x26 : Int) =>
  j9 x23 x24 0 0 x25 x26) (fun j10 =>
  if decide (p_x.Kind = 4) then
  j10 An An p_x.Of p_x.Other
  else
  j10 p_x.Who p_x.Race An 0))))) (fun j6 =>
  if (decide (p_x.Kind = 4)) then Option.bind (Gy p_x.Of) (fun r5 =>
  j6 ((decide (p_x.Kind = 4)) && (!r5))) else j6 ((decide (p_x.Kind = 4)) && true))) (fun j5 =>
  if (((decide (p_x.Kind = 1)) || (decide (p_x.Kind = 3))) && (!(El p_x.Time 0 360000))) then
  j5 (((decide (p_x.Kind = 1)) || (decide (p_x.Kind = 3))) && (!(El p_x.Time 0 360000)))
  else
  j5 ((decide (p_x.Kind = 3)) && (!(El p_x.Fault 0 8))))) (fun j3 =>
  if c1 then
  j3 c1
  else
  Hc (fun (c3 : Bool) =>
  j3 c3) (fun j4 =>
  if ((decide (p_x.Kind = 1)) && (!decide (p_x.Club = An))) then Option.bind (Gy p_x.Club) (fun r4 =>
  j4 (((decide (p_x.Kind = 1)) && (!decide (p_x.Club = An))) && (!r4))) else j4 (((decide (p_x.Kind = 1)) && (!decide (p_x.Club = An))) && true)))) (fun j1 =>
  if (!(decide (p_x.Kind = 4))) then Option.bind (Gy p_x.Who) (fun r2 =>
  Hc (fun (c2 : Bool) =>
  j1 ((!(decide (p_x.Kind = 4))) && c2)) (fun j2 =>
  if (!r2) then j2 ((!r2) || true) else Option.bind (Gy p_x.Race) (fun r3 =>
  j2 ((!r2) || (!r3))))) else j1 ((!(decide (p_x.Kind = 4))) && true)))
def Rj (p_x : Int) : Bool :=
  !decide (p_x = p_x)
def Hx (p_x : Int) (p_y : Int) : Int :=
  if (Rj p_x) then
  if (Rj p_y) then
  0
  else
  (-1)
  else
  if (Rj p_y) then
  1
  else
  if decide (p_x < p_y) then
  (-1)
  else
  if decide (p_y < p_x) then
  1
  else
  0
def Mt (j1 : Int) : List Int → Nat → Int
  | [],_=>j1
  | y1 :: ys1,i1=>if !decide (y1 = 0) then
  y1
  else
  Mt j1 ys1 (i1 + 1)
def Rt (p_vals : List Int) : Int :=
  Hc (0) (fun j1 =>
  Mt j1 p_vals 0)
def Og (p_a : Eg) (p_b : Eg) : Int :=
  (Rt [(Hx p_a.At p_b.At),(Ho p_a.Site p_b.Site),(Hx p_a.No p_b.No)])
def Gc (p_x : Eg) : Fm :=
  (Fm.mk p_x.Site p_x.No)
def Jj (p_l : List Eg) (j1 : (List (Fm × Bool)) → Bool → Option Int) : List Eg → Nat → (List (Fm × Bool)) → Bool → Option Int
  | [],_,x1,x2=>j1 x1 x2
  | y1 :: ys1,i1,x1,x2=>Option.bind (Rs y1) (fun r1 =>
  if !decide (r1 = 0) then
  some r1
  else
  Hc (fun (x3 : Bool) =>
  if x3 then
  some 7
  else
  Jj p_l j1 ys1 (i1 + 1) (Hj x1 (Gc y1) true) (x2 || (Et x1 (Gc y1) false))) (fun j2 =>
  if decide (0 < (i1 : Int)) then
  Chk (inB (W ((i1 : Int) - 1)) p_l.length) (
  j2 (decide (0 ≤ (Og (nth p_l (W ((i1 : Int) - 1))) y1))))
  else
  j2 false))
def Qw (p_l : List Eg) : Option Int :=
  if decide (2000 < (p_l.length : Int)) then
  some 2
  else
  Hc (fun (x1 : List (Fm × Bool)) (x2 : Bool) =>
  if x2 then
  some 6
  else
  some 0) (fun j1 =>
  Jj p_l j1 p_l 0 ([] : List (Fm × Bool)) false)
def Km (j1 : (List Int) → Option (List Int)) : Nat → (List Int) → Int → Int → Option (List Int)
  | 0,_,_,_=>none
  | m1 + 1,x1,x2,x3=>if decide (x2 < x3) then
  Chk (inB x3 x1.length) (
  Chk (inB x2 x1.length) (
  Chk (inB x2 x1.length) (
  Chk (inB x3 (x1.set x2.toNat (nth x1 x3)).length) (
  Km j1 m1 ((x1.set x2.toNat (nth x1 x3)).set x3.toNat (nth x1 x2)) (W (x2 + 1)) (W (x3 - 1))))))
  else
  j1 x1
def Qg (p_s : List Int) : Option (List Int) :=
  Hc (fun (x1 : List Int) =>
  some x1) (fun j1 =>
  Km j1 (((W ((p_s.length : Int) - 1)) - 0).toNat + 2) p_s 0 (W ((p_s.length : Int) - 1)))
  /-- Which of the deeds count,from the last one on. -/
def Yb (l : List Eg) (at_ : Int) (i : Nat) (m : List (Fm × Bool)) : Bool:=decide (at_ < (nth l (i : Int)).At) || Et m (Gc (nth l (i : Int))) false
def Lv (l : List Eg) (at_ : Int) : List Nat → List (Fm × Bool) → List Int → Option (List Int)
  | [],_,x=>Qg x
  | i :: is,m,x=>if Yb l at_ i m then Lv l at_ is m x else
    Chk (Sb x.length) (Lv l at_ is (if decide ((nth l (i : Int)).Kind = 4) then Hj m (Fm.mk ((nth l (i : Int)).Of) ((nth l (i : Int)).Other)) true else m) (x ++ [(i : Int)]))
def Yh (l : List Eg) (at_ : Int) : Option (List Int):=Lv l at_ (Zk l.length) [] []
def Nj (p_l : List Eg) (j1 : (List Eg) → Option (Option Lm)) : List Int → Nat → (List Eg) → Option (Option Lm)
  | [],_,x1=>j1 x1
  | y1 :: ys1,i1,x1=>Chk (inB y1 p_l.length) (
  Chk (Sb x1.length) (
  Nj p_l j1 ys1 (i1 + 1) (x1 ++ [(nth p_l y1)])))
def Xp (p_p : Ni) (p_l : List Eg) (p_at : Int) : Option (Option Lm) :=
  Option.bind (Yh p_l p_at) (fun r1 =>
  Hc (fun (x1 : List Eg) =>
  some (some (Lm.mk p_p x1))) (fun j1 =>
  Nj p_l j1 r1 0 ([] : List Eg)))
def Qj (j1 : Option ((Option Lm) × Int)) : List Int → Nat → Option ((Option Lm) × Int)
  | [],_=>j1
  | y1 :: ys1,i1=>if !(Ji y1) then
  some (none,1)
  else
  Qj j1 ys1 (i1 + 1)
def AV (p_p : Ni) (p_l : List Eg) (p_at : List Int) : Option ((Option Lm) × Int) :=
  Option.bind (Vj p_p) (fun r1 =>
  if !decide (r1 = 0) then
  some (none,r1)
  else
  Option.bind (Qw p_l) (fun r2 =>
  if !decide (r2 = 0) then
  some (none,r2)
  else
  Hc (Chk (inB (W ((p_at.length : Int) - 1)) p_at.length) (
  Option.bind (Xp p_p p_l (nth p_at (W ((p_at.length : Int) - 1)))) (fun r3 =>
  some (r3,0)))) (fun j1 =>
  Qj j1 p_at 0)))
def Yi (p_r : Eu) (p_a1 : ByteArray) : Bool :=
  decide (p_r.Key = p_a1)
def Hf (p_f_0 : ByteArray) (j1 : Int) : List Eu → Nat → Int
  | [],_=>j1
  | y1 :: ys1,i1=>if (Yi y1 p_f_0) then
  (i1 : Int)
  else
  Hf p_f_0 j1 ys1 (i1 + 1)
def Hg (p_s : List Eu) (p_f_0 : ByteArray) : Int :=
  Hc ((-1)) (fun j1 =>
  Hf p_f_0 j1 p_s 0)
def FE (p_x : Int) : Option Int :=
  Hc (fun (x1 : Int) (x2 : Int) =>
  Hc (fun (x3 : Int) (x4 : Int) =>
  Chk (inB (IntKind.wrap .u8 x3) Rg.size) (
  some (W (x4 + (W (Zz Rg (IntKind.wrap .u8 x3))))))) (fun j2 =>
  if decide (256 ≤ x1) then
  j2 (Hq .u32 x1 8) (W (x2 + 8))
  else
  j2 x1 x2)) (fun j1 =>
  if decide (65536 ≤ p_x) then
  j1 (Hq .u32 p_x 16) 16
  else
  j1 p_x 0)
def BP (p_x : Int) : Option Int :=
  Hc (fun (x1 : Int) (x2 : Int) =>
  Hc (fun (x3 : Int) (x4 : Int) =>
  Hc (fun (x5 : Int) (x6 : Int) =>
  Chk (inB (IntKind.wrap .u8 x5) Rg.size) (
  some (W (x6 + (W (Zz Rg (IntKind.wrap .u8 x5))))))) (fun j3 =>
  if decide (256 ≤ x3) then
  j3 (Hq .u64 x3 8) (W (x4 + 8))
  else
  j3 x3 x4)) (fun j2 =>
  if decide (65536 ≤ x1) then
  j2 (Hq .u64 x1 16) (W (x2 + 16))
  else
  j2 x1 x2)) (fun j1 =>
  if decide (4294967296 ≤ p_x) then
  j1 (Hq .u64 p_x 32) 32
  else
  j1 p_x 0)
def CW (p_x : Int) : Option Int :=
  if false then
  Option.bind (FE (IntKind.wrap .u32 p_x)) (fun r1 =>
  some r1)
  else
  Option.bind (BP p_x) (fun r2 =>
  some r2)
def Pf (p_a : Eg) (p_b : Eg) : Int :=
  (Ho p_a.Who p_b.Who)
def Fj (p_a : Int) (j2 : (List Eg) → Option (List Eg)) : Nat → (List Eg) → Int → Option (List Eg)
  | 0,_,_=>none
  | m2 + 1,x3,x4=>Hc (fun (x5 : Bool) =>
  if x5 then
  Chk (inB (W (x4 - 1)) x3.length) (
  Chk (inB x4 x3.length) (
  Chk (inB x4 x3.length) (
  Chk (inB (W (x4 - 1)) (x3.set x4.toNat (nth x3 (W (x4 - 1)))).length) (
  Fj p_a j2 m2 ((x3.set x4.toNat (nth x3 (W (x4 - 1)))).set ((W (x4 - 1)).toNat) (nth x3 x4)) (W (x4 - 1))))))
  else
  j2 x3) (fun j3 =>
  if decide (p_a < x4) then
  Chk (inB x4 x3.length) (
  Chk (inB (W (x4 - 1)) x3.length) (
  j3 (decide ((Pf (nth x3 x4) (nth x3 (W (x4 - 1)))) < 0))))
  else
  j3 false)
def Gd (p_b : Int) (p_a : Int) (j1 : (List Eg) → Option (List Eg)) : Nat → (List Eg) → Int → Option (List Eg)
  | 0,_,_=>none
  | m1 + 1,x1,x2=>if decide (x2 < p_b) then
  Hc (fun (x3 : List Eg) =>
  Gd p_b p_a j1 m1 x3 (W (x2 + 1))) (fun j2 =>
  Fj p_a j2 ((x2 - p_a).toNat + 2) x1 x2)
  else
  j1 x1
def Jd (p_data : List Eg) (p_a : Int) (p_b : Int) : Option (List Eg) :=
  Hc (fun (x1 : List Eg) =>
  some x1) (fun j1 =>
  Gd p_b p_a j1 ((p_b - (W (p_a + 1))).toNat + 2) p_data (W (p_a + 1)))
def Hh (p_data : List Eg) : Nat → Int → Int → Int → Bool → Option (List Eg)
  | 0,_,_,_,_=>none
  | _ + 1,x1,x2,x3,x4=>if decide ((W (x2 - x1)) ≤ 12) then
  Option.bind (Jd p_data x1 x2) (fun r1 =>
  some r1)
  else
  if decide (x3 = 0) then
  none
  else
  if !x4 then
  none
  else
  none
def Ks (p_data : List Eg) (p_a : Int) (p_b : Int) (p_limit : Int) : Option (List Eg) :=
  Hh p_data 4611686018427387904 p_a p_b p_limit true
def Kk (p_x : List Eg) : Option (List Eg) :=
  Option.bind (CW (IntKind.wrap .u64 (p_x.length : Int))) (fun r1 =>
  Option.bind (Ks p_x 0 (p_x.length : Int) r1) (fun r2 =>
  some r2))
def Mn (p_race : ByteArray) (j1 : (List (ByteArray × Eg)) → Option (List Eg)) : List Eg → Nat → (List (ByteArray × Eg)) → Option (List Eg)
  | [],_,x1=>j1 x1
  | y1 :: ys1,i1,x1=>Hc (fun (x2 : List (ByteArray × Eg)) =>
  Mn p_race j1 ys1 (i1 + 1) x2) (fun j2 =>
  if !decide (y1.Race = p_race) then
  j2 x1
  else
  Hc (fun (x3 : List (ByteArray × Eg)) =>
  j2 x3) (fun j3 =>
  Hc (fun (x4 : List (ByteArray × Eg)) =>
  j3 x4) (fun j4 =>
  if decide (y1.Kind = 1) then
  j4 (Hj x1 y1.Who y1)
  else
  Hc (fun (x5 : List (ByteArray × Eg)) =>
  j4 x5) (fun j5 =>
  if decide (y1.Kind = 2) then
  j5 (CJ x1 y1.Who)
  else
  j5 x1))))
def Nq (j6 : (List Eg) → Option (List Eg)) : List (ByteArray × Eg) → (List Eg) → Option (List Eg)
  | [],x6=>j6 x6
  | y2 :: ys2,x6=>Option.bind (α:=(List Eg)) (
  Chk (Sb x6.length) (
  some (x6 ++ [y2.2]))) (fun s=>Nq j6 ys2 s)
def Ss (p_s_p : Ni) (p_s_deeds : List Eg) (p_race : ByteArray) : Option (List Eg) :=
  Hc (fun (x1 : List (ByteArray × Eg)) =>
  Hc (fun (x6 : List Eg) =>
  Option.bind (Kk x6) (fun r1 =>
  some r1)) (fun j6 =>
  WG x1 (fun p=>Nq j6 p ([] : List Eg)))) (fun j1 =>
  Mn p_race j1 p_s_deeds 0 ([] : List (ByteArray × Eg)))
def Zo (p_s_p : Ni) (p_s_deeds : List Eg) (p_key : ByteArray) : Option (Eu × Int) :=
  if decide ((Hg p_s_p.Races p_key) < 0) then
  some ((Eu.mk An 0 0 0 0 0 0 0),8)
  else
  Option.bind (Ss p_s_p p_s_deeds p_key) (fun r1 =>
  if decide (300 < (r1.length : Int)) then
  some ((Eu.mk An 0 0 0 0 0 0 0),2)
  else
  Chk (inB (Hg p_s_p.Races p_key) p_s_p.Races.length) (
  some ((nth p_s_p.Races (Hg p_s_p.Races p_key)),0)))
def CX (p_p : Ni) (p_l : List Eg) (p_race : ByteArray) (p_at : Int) : Option ((Option Lm) × Eu × Int) :=
  Option.bind (AV p_p p_l ([p_at] : List Int)) (fun r1 =>
  if !decide (r1.2 = 0) then
  some (none,(Eu.mk An 0 0 0 0 0 0 0),r1.2)
  else
  Option.bind (r1.1) (fun r2 =>
  Option.bind (Zo r2.p_ r2.deeds_ p_race) (fun r3 =>
  some (some r2,r3.1,r3.2))))
def Po (p_race : ByteArray) (j1 : (List (ByteArray × Eg)) → (List (ByteArray × Eg))) : List Eg → Nat → (List (ByteArray × Eg)) → (List (ByteArray × Eg))
  | [],_,x1=>j1 x1
  | y1 :: ys1,i1,x1=>Hc (fun (x2 : List (ByteArray × Eg)) =>
  Po p_race j1 ys1 (i1 + 1) x2) (fun j2 =>
  Hc (fun (x3 : List (ByteArray × Eg)) =>
  j2 x3) (fun j3 =>
  if ((decide (y1.Race = p_race)) && (decide (y1.Kind = 3))) then
  j3 (Hj x1 y1.Who y1)
  else
  j3 x1))
def Iy (p_s_p : Ni) (p_s_deeds : List Eg) (p_race : ByteArray) : (List (ByteArray × Eg)) :=
  Hc (fun (x1 : List (ByteArray × Eg)) =>
  x1) (fun j1 =>
  Po p_race j1 p_s_deeds 0 ([] : List (ByteArray × Eg)))
def Mb (j1 : (List (ByteArray × Bool)) → Bool → Option Int) : List Kq → Nat → (List (ByteArray × Bool)) → Bool → Option Int
  | [],_,x1,x2=>j1 x1 x2
  | y1 :: ys1,i1,x1,x2=>Option.bind (Gy y1.Who) (fun r1 =>
  if !r1 then
  some 5
  else
  if !(El y1.Time 0 360000) then
  some 1
  else
  Mb j1 ys1 (i1 + 1) (Hj x1 y1.Who true) (x2 || (Et x1 y1.Who false)))
def Uj (p_l : List Kq) : Option Int :=
  if decide (300 < (p_l.length : Int)) then
  some 2
  else
  Hc (fun (x1 : List (ByteArray × Bool)) (x2 : Bool) =>
  if x2 then
  some 6
  else
  some 0) (fun j1 =>
  Mb j1 p_l 0 ([] : List (ByteArray × Bool)) false)
def Ke (p_v : List Jm) (j1 : Option Int) : List Jm → Nat → Option Int
  | [],_=>j1
  | y1 :: ys1,i1=>Option.bind (Gy y1.Who) (fun r2 =>
  if !r2 then
  some 5
  else
  if !(El y1.Fault 0 8) then
  some 4
  else
  Hc (fun (c1 : Bool) =>
  if c1 then
  some 7
  else
  Ke p_v j1 ys1 (i1 + 1)) (fun j2 =>
  if (decide (0 < (i1 : Int))) then Chk (inB (W ((i1 : Int) - 1)) p_v.length) (
  j2 ((decide (0 < (i1 : Int))) && (CD y1.Who ((nth p_v (W ((i1 : Int) - 1))).Who) || decide (y1.Who = ((nth p_v (W ((i1 : Int) - 1))).Who))))) else j2 ((decide (0 < (i1 : Int))) && true)))
def Rc (p_v : List Jm) : Option Int :=
  if decide (300 < (p_v.length : Int)) then
  some 2
  else
  Hc (some 0) (fun j1 =>
  Ke p_v j1 p_v 0)
def Wp (p_a : Ej) (p_b : Ej) (p_a2 : Int) : Option Int :=
  Chk (!decide (p_a2 = 0)) (
  Chk (!decide (p_a2 = 0)) (
  some (W ((W (Int.tdiv p_a.Time p_a2)) - (W (Int.tdiv p_b.Time p_a2))))))
def Fl (p_a : Int) (p_cmp_0 : Int) (j2 : (List Ej) → Option (List Ej)) : Nat → (List Ej) → Int → Option (List Ej)
  | 0,_,_=>none
  | m2 + 1,x3,x4=>Hc (fun (x5 : Bool) =>
  if x5 then
  Chk (inB (W (x4 - 1)) x3.length) (
  Chk (inB x4 x3.length) (
  Chk (inB x4 x3.length) (
  Chk (inB (W (x4 - 1)) (x3.set x4.toNat (nth x3 (W (x4 - 1)))).length) (
  Fl p_a p_cmp_0 j2 m2 ((x3.set x4.toNat (nth x3 (W (x4 - 1)))).set ((W (x4 - 1)).toNat) (nth x3 x4)) (W (x4 - 1))))))
  else
  j2 x3) (fun j3 =>
  if decide (p_a < x4) then
  Chk (inB x4 x3.length) (
  Chk (inB (W (x4 - 1)) x3.length) (
  Option.bind (Wp (nth x3 x4) (nth x3 (W (x4 - 1))) p_cmp_0) (fun r1 =>
  j3 (decide (r1 < 0)))))
  else
  j3 false)
def Gf (p_b : Int) (p_a : Int) (p_cmp_0 : Int) (j1 : (List Ej) → Option (List Ej)) : Nat → (List Ej) → Int → Option (List Ej)
  | 0,_,_=>none
  | m1 + 1,x1,x2=>if decide (x2 < p_b) then
  Hc (fun (x3 : List Ej) =>
  Gf p_b p_a p_cmp_0 j1 m1 x3 (W (x2 + 1))) (fun j2 =>
  Fl p_a p_cmp_0 j2 ((x2 - p_a).toNat + 2) x1 x2)
  else
  j1 x1
def Il (p_data : List Ej) (p_a : Int) (p_b : Int) (p_cmp_0 : Int) : Option (List Ej) :=
  Hc (fun (x1 : List Ej) =>
  some x1) (fun j1 =>
  Gf p_b p_a p_cmp_0 j1 ((p_b - (W (p_a + 1))).toNat + 2) p_data (W (p_a + 1)))
def Gz (p_n : Int) (p_cmp_0 : Int) (j1 : (List Ej) → Int → Option (List Ej)) : Nat → (List Ej) → Int → Int → Option (List Ej)
  | 0,_,_,_=>none
  | m1 + 1,x1,x2,x3=>if decide (x3 ≤ p_n) then
  Option.bind (Il x1 x2 x3 p_cmp_0) (fun r1 =>
  Gz p_n p_cmp_0 j1 m1 r1 x3 (W (x3 + 20)))
  else
  j1 x1 x2
def Ih (p_n : Int) (j3 : Int → Option (List Ej)) : Nat → Int → Int → Option (List Ej)
  | 0,_,_=>none
  | _ + 1,x5,x6=>if decide (x6 ≤ p_n) then
  none
  else
  j3 x5
def Ha (p_n : Int) (j2 : Option (List Ej)) : Nat → Int → Option (List Ej)
  | 0,_=>none
  | m2 + 1,x4=>if decide (x4 < p_n) then
  Hc (fun (x5 : Int) =>
  if decide ((W (x5 + x4)) < p_n) then
  none
  else
  Ha p_n j2 m2 (W (x4 * 2))) (fun j3 =>
  Ih p_n j3 ((p_n - (W (2 * x4))).toNat + 2) 0 (W (2 * x4)))
  else
  j2
def Le (p_data : List Ej) (p_n : Int) (p_cmp_0 : Int) : Option (List Ej) :=
  Hc (fun (x1 : List Ej) (x2 : Int) =>
  Option.bind (Il x1 x2 p_n p_cmp_0) (fun r2 =>
  Hc (some r2) (fun j2 =>
  Ha p_n j2 ((p_n - 20).toNat + 2) 20))) (fun j1 =>
  Gz p_n p_cmp_0 j1 ((p_n - 20).toNat + 2) p_data 0 20)
def Jx (p_x : List Ej) (p_cmp_0 : Int) : Option (List Ej) :=
  Option.bind (Le p_x (p_x.length : Int) p_cmp_0) (fun r1 =>
  some r1)
def Pp (j1 : (List (ByteArray × Int)) → Option ((List Ej) × Int)) : List Jm → Nat → (List (ByteArray × Int)) → Option ((List Ej) × Int)
  | [],_,x1=>j1 x1
  | y1 :: ys1,i1,x1=>Pp j1 ys1 (i1 + 1) (Hj x1 y1.Who y1.Fault)
def Ol (x1 : List (ByteArray × Int)) (j2 : (List Ej) → (List Ej) → Option ((List Ej) × Int)) : List Kq → Nat → (List Ej) → (List Ej) → Option ((List Ej) × Int)
  | [],_,x2,x3=>j2 x2 x3
  | y2 :: ys2,i2,x2,x3=>Hc (fun (x4 : List Ej) (x5 : List Ej) =>
  Ol x1 j2 ys2 (i2 + 1) x4 x5) (fun j3 =>
  Hc (fun (x6 : List Ej) (x7 : List Ej) =>
  j3 x6 x7) (fun j4 =>
  if ((decide ((Et x1 y2.Who 0) = 0)) && (decide (0 < y2.Time))) then
  Chk (Sb x3.length) (
  j4 x2 (x3 ++ [(Ej.mk y2.Who 0 y2.Time (Et x1 y2.Who 0))]))
  else
  Chk (Sb x2.length) (
  j4 (x2 ++ [(Ej.mk y2.Who 0 y2.Time (Et x1 y2.Who 0))]) x3)))
def Om (p_by : Int) (j5 : (List Ej) → Option ((List Ej) × Int)) : List Ej → Nat → (List Ej) → Option ((List Ej) × Int)
  | [],_,x8=>j5 x8
  | _ :: ys3,i3,x8=>Hc (fun (x9 : List Ej) =>
  Om p_by j5 ys3 (i3 + 1) x9) (fun j6 =>
  Hc (fun (c1 : Bool) =>
  Hc (fun (x10 : List Ej) =>
  j6 x10) (fun j8 =>
  if c1 then
  Chk (inB (W ((i3 : Int) - 1)) x8.length) (
  Chk (inB (i3 : Int) x8.length) (
  j8 (x8.set ((i3 : Int).toNat) (Ej.mk ((nth x8 (i3 : Int)).Who) ((nth x8 (W ((i3 : Int) - 1))).Rank) ((nth x8 (i3 : Int)).Time) ((nth x8 (i3 : Int)).Fault)))))
  else
  Chk (inB (i3 : Int) x8.length) (
  j8 (x8.set ((i3 : Int).toNat) (Ej.mk ((nth x8 (i3 : Int)).Who) (W ((i3 : Int) + 1)) ((nth x8 (i3 : Int)).Time) ((nth x8 (i3 : Int)).Fault)))))) (fun j7 =>
  if (decide (0 < (i3 : Int))) then Chk (inB (i3 : Int) x8.length) (
  Chk (!decide (p_by = 0)) (
  Chk (inB (W ((i3 : Int) - 1)) x8.length) (
  Chk (!decide (p_by = 0)) (
  j7 ((decide (0 < (i3 : Int))) && (decide ((W (Int.tdiv ((nth x8 (i3 : Int)).Time) p_by)) = (W (Int.tdiv ((nth x8 (W ((i3 : Int) - 1))).Time) p_by))))))))) else j7 ((decide (0 < (i3 : Int))) && true)))
def BQ (p_l : List Kq) (p_v : List Jm) (p_by : Int) : Option ((List Ej) × Int) :=
  Option.bind (Uj p_l) (fun r1 =>
  if !decide (r1 = 0) then
  some (([] : List Ej),r1)
  else
  Option.bind (Rc p_v) (fun r2 =>
  if !decide (r2 = 0) then
  some (([] : List Ej),r2)
  else
  Hc (fun (x1 : List (ByteArray × Int)) =>
  Hc (fun (x2 : List Ej) (x3 : List Ej) =>
  Option.bind (Jx x3 p_by) (fun r4 =>
  Hc (fun (x8 : List Ej) =>
  Chk (decide (x8.length + x2.length < 1073741824)) (
  some ((x8 ++ x2),0))) (fun j5 =>
  Om p_by j5 r4 0 r4))) (fun j2 =>
  Ol x1 j2 p_l 0 ([] : List Ej) ([] : List Ej))) (fun j1 =>
  Pp j1 p_v 0 ([] : List (ByteArray × Int)))))
def Yc (p_l : List Kq) (p_v : List Jm) : Option ((List Ej) × Int) :=
  Option.bind (BQ p_l p_v 1) (fun r1 =>
  some (r1.1,r1.2))
def Nk (p_s_p : Ni) (p_s_deeds : List Eg) (p_race : ByteArray) (j1 : (List Jm) → (List Kq) → (List (ByteArray × ByteArray)) → Option ((List Ej) × (List (ByteArray × ByteArray)) × Int)) : List Eg → Nat → (List Jm) → (List Kq) → (List (ByteArray × ByteArray)) → Option ((List Ej) × (List (ByteArray × ByteArray)) × Int)
  | [],_,x1,x2,x3=>j1 x1 x2 x3
  | y1 :: ys1,i1,x1,x2,x3=>Hc (fun (x4 : List Jm) (x5 : List Kq) (x6 : List (ByteArray × ByteArray)) =>
  Nk p_s_p p_s_deeds p_race j1 ys1 (i1 + 1) x4 x5 x6) (fun j2 =>
  if !((Ut (Iy p_s_p p_s_deeds p_race) y1.Who).isSome) then
  j2 x1 x2 x3
  else
  Chk (Sb x2.length) (
  Hc (fun (x7 : List Jm) =>
  j2 x7 (x2 ++ [(Kq.mk y1.Who ((Et (Iy p_s_p p_s_deeds p_race) y1.Who (Eg.mk An 0 0 0 An An An 0 0 An 0)).Time))]) (Hj x3 y1.Who y1.Club)) (fun j3 =>
  if decide (0 < ((Et (Iy p_s_p p_s_deeds p_race) y1.Who (Eg.mk An 0 0 0 An An An 0 0 An 0)).Fault)) then
  Chk (Sb x1.length) (
  j3 (x1 ++ [(Jm.mk y1.Who ((Et (Iy p_s_p p_s_deeds p_race) y1.Who (Eg.mk An 0 0 0 An An An 0 0 An 0)).Fault) ([] : List ByteArray))]))
  else
  j3 x1)))
def Xq (p_s_p : Ni) (p_s_deeds : List Eg) (p_race : ByteArray) : Option ((List Ej) × (List (ByteArray × ByteArray)) × Int) :=
  Option.bind (Ss p_s_p p_s_deeds p_race) (fun r1 =>
  Hc (fun (x1 : List Jm) (x2 : List Kq) (x3 : List (ByteArray × ByteArray)) =>
  Option.bind (Yc x2 x1) (fun r2 =>
  some (r2.1,x3,r2.2))) (fun j1 =>
  Nk p_s_p p_s_deeds p_race j1 r1 0 ([] : List Jm) ([] : List Kq) ([] : List (ByteArray × ByteArray))))
def Oh (p_a : Eh) (p_b : Eh) : Int :=
  if !decide ((decide (p_a.Rank = 0)) = (decide (p_b.Rank = 0))) then
  W (p_b.Rank - p_a.Rank)
  else
  if !decide (p_a.Rank = p_b.Rank) then
  W (p_a.Rank - p_b.Rank)
  else
  (Ho p_a.Who p_b.Who)
def Fi (p_a : Int) (j2 : (List Eh) → Option (List Eh)) : Nat → (List Eh) → Int → Option (List Eh)
  | 0,_,_=>none
  | m2 + 1,x3,x4=>Hc (fun (x5 : Bool) =>
  if x5 then
  Chk (inB (W (x4 - 1)) x3.length) (
  Chk (inB x4 x3.length) (
  Chk (inB x4 x3.length) (
  Chk (inB (W (x4 - 1)) (x3.set x4.toNat (nth x3 (W (x4 - 1)))).length) (
  Fi p_a j2 m2 ((x3.set x4.toNat (nth x3 (W (x4 - 1)))).set ((W (x4 - 1)).toNat) (nth x3 x4)) (W (x4 - 1))))))
  else
  j2 x3) (fun j3 =>
  if decide (p_a < x4) then
  Chk (inB x4 x3.length) (
  Chk (inB (W (x4 - 1)) x3.length) (
  j3 (decide ((Oh (nth x3 x4) (nth x3 (W (x4 - 1)))) < 0))))
  else
  j3 false)
def Fz (p_b : Int) (p_a : Int) (j1 : (List Eh) → Option (List Eh)) : Nat → (List Eh) → Int → Option (List Eh)
  | 0,_,_=>none
  | m1 + 1,x1,x2=>if decide (x2 < p_b) then
  Hc (fun (x3 : List Eh) =>
  Fz p_b p_a j1 m1 x3 (W (x2 + 1))) (fun j2 =>
  Fi p_a j2 ((x2 - p_a).toNat + 2) x1 x2)
  else
  j1 x1
def Ie (p_data : List Eh) (p_a : Int) (p_b : Int) : Option (List Eh) :=
  Hc (fun (x1 : List Eh) =>
  some x1) (fun j1 =>
  Fz p_b p_a j1 ((p_b - (W (p_a + 1))).toNat + 2) p_data (W (p_a + 1)))
def Gr (p_n : Int) (j1 : (List Eh) → Int → Option (List Eh)) : Nat → (List Eh) → Int → Int → Option (List Eh)
  | 0,_,_,_=>none
  | m1 + 1,x1,x2,x3=>if decide (x3 ≤ p_n) then
  Option.bind (Ie x1 x2 x3) (fun r1 =>
  Gr p_n j1 m1 r1 x3 (W (x3 + 20)))
  else
  j1 x1 x2
def Hu (p_n : Int) (j3 : Int → Option (List Eh)) : Nat → Int → Int → Option (List Eh)
  | 0,_,_=>none
  | _ + 1,x5,x6=>if decide (x6 ≤ p_n) then
  none
  else
  j3 x5
def Gt (p_n : Int) (j2 : Option (List Eh)) : Nat → Int → Option (List Eh)
  | 0,_=>none
  | m2 + 1,x4=>if decide (x4 < p_n) then
  Hc (fun (x5 : Int) =>
  if decide ((W (x5 + x4)) < p_n) then
  none
  else
  Gt p_n j2 m2 (W (x4 * 2))) (fun j3 =>
  Hu p_n j3 ((p_n - (W (2 * x4))).toNat + 2) 0 (W (2 * x4)))
  else
  j2
def Kl (p_data : List Eh) (p_n : Int) : Option (List Eh) :=
  Hc (fun (x1 : List Eh) (x2 : Int) =>
  Option.bind (Ie x1 x2 p_n) (fun r2 =>
  Hc (some r2) (fun j2 =>
  Gt p_n j2 ((p_n - 20).toNat + 2) 20))) (fun j1 =>
  Gr p_n j1 ((p_n - 20).toNat + 2) p_data 0 20)
def Ib (p_x : List Eh) : Option (List Eh) :=
  Option.bind (Kl p_x (p_x.length : Int)) (fun r1 =>
  some r1)
def Mi (p_a : Int) (p_b : Int) : Int :=
  Hc (fun (x1 : Int) =>
  Hc (fun (x2 : Int) =>
  W (x1 - x2)) (fun j2 =>
  if decide (p_b = 0) then
  j2 301
  else
  j2 p_b)) (fun j1 =>
  if decide (p_a = 0) then
  j1 301
  else
  j1 p_a)
def Tg (p_a : Eh) (p_b : Eh) : Int :=
  (Rt [(Ho p_a.Race p_b.Race),(Mi p_a.Rank p_b.Rank),(Ho p_a.Who p_b.Who)])
def Oe (p_l : List Eh) (x2 : Int) (j2 : Int → Option (List (List Eh))) : Nat → Int → Option (List (List Eh))
  | 0,_=>none
  | m2 + 1,x3=>Hc (fun (c1 : Bool) =>
  if c1 then
  Oe p_l x2 j2 m2 (W (x3 + 1))
  else
  j2 x3) (fun j3 =>
  if (decide (x3 < (p_l.length : Int))) then Chk (inB x3 p_l.length) (
  Chk (inB x2 p_l.length) (
  j3 ((decide (x3 < (p_l.length : Int))) && (decide (((nth p_l x3).Race) = ((nth p_l x2).Race)))))) else j3 ((decide (x3 < (p_l.length : Int))) && true))
def Mj (p_l : List Eh) (j1 : (List (List Eh)) → Option (List (List Eh))) : Nat → (List (List Eh)) → Int → Option (List (List Eh))
  | 0,_,_=>none
  | m1 + 1,x1,x2=>if decide (x2 < (p_l.length : Int)) then
  Hc (fun (x3 : Int) =>
  Chk (CI x2 x3 p_l.length) (
  Chk (Sb x1.length) (
  Mj p_l j1 m1 (x1 ++ [cut p_l x2 x3]) x3))) (fun j2 =>
  Oe p_l x2 j2 (((p_l.length : Int) - (W (x2 + 1))).toNat + 2) (W (x2 + 1)))
  else
  j1 x1
def Tw (p_l : List Eh) : Option (List (List Eh)) :=
  Hc (fun (x1 : List (List Eh)) =>
  some x1) (fun j1 =>
  Mj p_l j1 (((p_l.length : Int) - 0).toNat + 2) ([] : List (List Eh)) 0)
def Tx (p_x : Eh) (p_a1 : List Eh) : Option Bool :=
  Chk (inB 0 p_a1.length) (
  some (!decide (p_x.Relay = ((nth p_a1 0).Relay))))
def Gj (p_f_0 : List Eh) (j1 : Option Int) : List Eh → Nat → Option Int
  | [],_=>j1
  | y1 :: ys1,i1=>Option.bind (Tx y1 p_f_0) (fun r1 =>
  if r1 then
  some (i1 : Int)
  else
  Gj p_f_0 j1 ys1 (i1 + 1))
def Ku (p_s : List Eh) (p_f_0 : List Eh) : Option Int :=
  Hc (some (-1)) (fun j1 =>
  Gj p_f_0 j1 p_s 0)
def Ki (p_s : List Eh) (p_f_0 : List Eh) : Option Bool :=
  Option.bind (Ku p_s p_f_0) (fun r1 =>
  some (decide (0 ≤ r1)))
def Mc (j1 : (List (Ge × Bool)) → Option Int) : List Eh → Nat → (List (Ge × Bool)) → Option Int
  | [],_,x1=>j1 x1
  | y1 :: ys1,i1,x1=>if Et x1 (Ge.mk y1.Race y1.Who) false then
  some 6
  else
  Mc j1 ys1 (i1 + 1) (Hj x1 (Ge.mk y1.Race y1.Who) true)
def Lh (j2 : Option Int) : List (List Eh) → Nat → Option Int
  | [],_=>j2
  | y2 :: ys2,i2=>Option.bind (Ki y2 y2) (fun r3 =>
  if r3 then
  some 3
  else
  Lh j2 ys2 (i2 + 1))
def Md (y3 : (List Eh)) (j4 : Option Int) : List Eh → Nat → Option Int
  | [],_=>j4
  | y4 :: ys4,i4=>Hc (fun (c1 : Bool) =>
  if c1 then
  some 16
  else
  Md y3 j4 ys4 (i4 + 1)) (fun j5 =>
  if ((decide (0 < y4.Rank)) && (!decide (y4.Rank = (W ((i4 : Int) + 1))))) then Hc (fun (c2 : Bool) =>
  j5 (((decide (0 < y4.Rank)) && (!decide (y4.Rank = (W ((i4 : Int) + 1))))) && c2)) (fun j6 =>
  if (decide ((i4 : Int) = 0)) then j6 ((decide ((i4 : Int) = 0)) || true) else Chk (inB (W ((i4 : Int) - 1)) y3.length) (
  j6 ((decide ((i4 : Int) = 0)) || (!decide (y4.Rank = ((nth y3 (W ((i4 : Int) - 1))).Rank)))))) else j5 (((decide (0 < y4.Rank)) && (!decide (y4.Rank = (W ((i4 : Int) + 1))))) && true))
def Kp (j3 : Option Int) : List (List Eh) → Nat → Option Int
  | [],_=>j3
  | y3 :: ys3,i3=>Hc (Kp j3 ys3 (i3 + 1)) (fun j4 =>
  Md y3 j4 y3 0)
def Nd (y5 : (List Eh)) (j8 : Option Int) : Nat → Int → Option Int
  | 0,_=>none
  | m1 + 1,x2=>if decide (x2 < (y5.length : Int)) then
  Chk (inB x2 y5.length) (
  Hc (fun (c3 : Bool) =>
  if c3 then
  some 12
  else
  Nd y5 j8 m1 (W (x2 + 1))) (fun j9 =>
  if (decide (0 < ((nth y5 x2).Rank))) then Chk (inB x2 y5.length) (
  Chk (inB (W (x2 - 10)) y5.length) (
  j9 ((decide (0 < ((nth y5 x2).Rank))) && (decide (((nth y5 x2).Rank) = ((nth y5 (W (x2 - 10))).Rank)))))) else j9 ((decide (0 < ((nth y5 x2).Rank))) && true)))
  else
  j8
def Li (j7 : Option Int) : List (List Eh) → Nat → Option Int
  | [],_=>j7
  | y5 :: ys5,i5=>Hc (Li j7 ys5 (i5 + 1)) (fun j8 =>
  Nd y5 j8 (((y5.length : Int) - 10).toNat + 2) 10)
def Sh (p_l : List Eh) : Option Int :=
  Hc (fun (x1 : List (Ge × Bool)) =>
  Option.bind (Tw p_l) (fun r1 =>
  Hc (Hc (Hc (some 0) (fun j7 =>
  Li j7 r1 0)) (fun j3 =>
  Kp j3 r1 0)) (fun j2 =>
  Lh j2 r1 0))) (fun j1 =>
  Mc j1 p_l 0 ([] : List (Ge × Bool)))
def Kn (p_l : List Eh) (j1 : Option Int) : List Eh → Nat → Option Int
  | [],_=>j1
  | y1 :: ys1,i1=>Option.bind (Gy y1.Race) (fun r1 =>
  Hc (fun (c1 : Bool) =>
  Hc (fun (c2 : Bool) =>
  if c2 then
  some 5
  else
  if !(El y1.Rank 0 300) then
  some 1
  else
  Hc (fun (x1 : Bool) =>
  if x1 then
  some 7
  else
  Kn p_l j1 ys1 (i1 + 1)) (fun j5 =>
  if decide (0 < (i1 : Int)) then
  Chk (inB (W ((i1 : Int) - 1)) p_l.length) (
  j5 (decide (0 ≤ (Tg (nth p_l (W ((i1 : Int) - 1))) y1))))
  else
  j5 false)) (fun j3 =>
  if c1 then j3 (c1 || true) else Hc (fun (c3 : Bool) =>
  j3 (c1 || c3)) (fun j4 =>
  if (!decide (y1.Club = An)) then Option.bind (Gy y1.Club) (fun r3 =>
  j4 ((!decide (y1.Club = An)) && (!r3))) else j4 ((!decide (y1.Club = An)) && true)))) (fun j2 =>
  if (!r1) then j2 ((!r1) || true) else Option.bind (Gy y1.Who) (fun r2 =>
  j2 ((!r1) || (!r2)))))
def Ru (p_l : List Eh) : Option Int :=
  if decide (2000 < (p_l.length : Int)) then
  some 2
  else
  Hc (Option.bind (Sh p_l) (fun r4 =>
  some r4)) (fun j1 =>
  Kn p_l j1 p_l 0)
def Th (p_t : Nh) (p_l : List Eh) : Option Int :=
  Option.bind (Pu p_t) (fun r1 =>
  if !decide (r1 = 0) then
  some r1
  else
  Option.bind (Ru p_l) (fun r2 =>
  some r2))
def Me : Fo :=
  (Fo.mk 0 1)
def Mu (j1 : Int → Option Fo) : Nat → Int → Int → Option Fo
  | 0,_,_=>none
  | m1 + 1,x1,x2=>if decide (0 < x1) then
  Chk (!decide (x1 = 0)) (
  Mu j1 m1 (Int.tmod x2 x1) x1)
  else
  j1 x2
def Rv (p_a : Int) (p_b : Int) : Option Fo :=
  Hc (fun (x2 : Int) =>
  Chk (!decide (x2 = 0)) (
  Chk (!decide (x2 = 0)) (
  some (Fo.mk (W (Int.tdiv p_a x2)) (W (Int.tdiv p_b x2)))))) (fun j1 =>
  Mu j1 ((p_a - 0).toNat + 2) p_a p_b)
def Ob (p_t : Nh) (j1 : (List (ByteArray × Int)) → (List Int) → (List En) → Option (List En)) : List Eh → Nat → (List (ByteArray × Int)) → (List Int) → (List En) → Option (List En)
  | [],_,x1,x2,x3=>j1 x1 x2 x3
  | y1 :: ys1,i1,x1,x2,x3=>Hc (fun (x4 : List (ByteArray × Int)) (x5 : List Int) (x6 : List En) =>
  Ob p_t j1 ys1 (i1 + 1) x4 x5 x6) (fun j2 =>
  if ((decide (y1.Rank = 0)) || (decide (y1.Club = An))) then
  j2 x1 x2 x3
  else
  Hc (fun (x7 : List Int) =>
  Chk (Sb x3.length) (
  j2 (Hj x1 y1.Club (W ((Et x1 y1.Club 0) + 1))) x7 (x3 ++ [(En.mk y1 Me)]))) (fun j3 =>
  if ((decide (p_t.Most = 0)) || (decide ((Et (Hj x1 y1.Club (W ((Et x1 y1.Club 0) + 1))) y1.Club 0) ≤ p_t.Most))) then
  Chk (Sb x2.length) (
  j3 (x2 ++ [(x3.length : Int)]))
  else
  j3 x2))
def Oc (p_t : Nh) (x2 : List Int) (x8 : List En) (x9 : Int) (j5 : Int → Int → Option (List En)) : Nat → Int → Int → Option (List En)
  | 0,_,_=>none
  | m2 + 1,x10,x11=>Hc (fun (c1 : Bool) =>
  if c1 then
  Hc (fun (x12 : Int) =>
  Oc p_t x2 x8 x9 j5 m2 (W (x10 + 1)) x12) (fun j7 =>
  Hc (fun (x13 : Int) =>
  j7 x13) (fun j8 =>
  if decide (x10 < (p_t.Points.length : Int)) then
  Chk (inB x10 p_t.Points.length) (
  j8 (W (x11 + (nth p_t.Points x10))))
  else
  j8 x11))
  else
  j5 x10 x11) (fun j6 =>
  if (decide (x10 < (x2.length : Int))) then Chk (inB x10 x2.length) (
  Chk (inB (nth x2 x10) x8.length) (
  Chk (inB x9 x2.length) (
  Chk (inB (nth x2 x9) x8.length) (
  j6 ((decide (x10 < (x2.length : Int))) && (decide ((((nth x8 (nth x2 x10)).x_).Rank) = (((nth x8 (nth x2 x9)).x_).Rank)))))))) else j6 ((decide (x10 < (x2.length : Int))) && true))
def Mo (x10 : Int) (x9 : Int) (x14 : Int) (x2 : List Int) (j10 : (List En) → Option (List En)) : Nat → (List En) → Int → Option (List En)
  | 0,_,_=>none
  | m3 + 1,x15,x16=>if decide (x16 < ((x10.toNat - x9.toNat : Nat) : Int)) then
  Chk (inB x16 (x10.toNat - x9.toNat)) (
  Option.bind (Rv x14 (W (x10 - x9))) (fun r1 =>
  Chk (inB (nth (cut x2 x9 x10) x16) x15.length) (
  Mo x10 x9 x14 x2 j10 m3 (x15.set ((nth (cut x2 x9 x10) x16).toNat) (En.mk ((nth x15 (nth (cut x2 x9 x10) x16)).x_) r1)) (W (x16 + 1)))))
  else
  j10 x15
def Lj (x2 : List Int) (p_l : List Eh) (p_t : Nh) (j4 : (List En) → Option (List En)) : Nat → (List En) → Int → Option (List En)
  | 0,_,_=>none
  | m1 + 1,x8,x9=>if decide (x9 < (x2.length : Int)) then
  Hc (fun (x10 : Int) (x11 : Int) =>
  Chk (inB 0 p_l.length) (
  Hc (fun (x14 : Int) =>
  Chk (CI x9 x10 x2.length) (
  Hc (fun (x15 : List En) =>
  Lj x2 p_l p_t j4 m1 x15 x10) (fun j10 =>
  Mo x10 x9 x14 x2 j10 ((((x10.toNat - x9.toNat : Nat) : Int) - 0).toNat + 2) x8 0))) (fun j9 =>
  if (nth p_l 0).Relay then
  j9 (W (x11 * p_t.Relay))
  else
  j9 x11))) (fun j5 =>
  Oc p_t x2 x8 x9 j5 (((x2.length : Int) - x9).toNat + 2) x9 0)
  else
  j4 x8
def Yp (p_t : Nh) (p_l : List Eh) : Option (List En) :=
  Hc (fun (x1 : List (ByteArray × Int)) (x2 : List Int) (x3 : List En) =>
  Hc (fun (x8 : List En) =>
  some x8) (fun j4 =>
  Lj x2 p_l p_t j4 (((x2.length : Int) - 0).toNat + 2) x3 0)) (fun j1 =>
  Ob p_t j1 p_l 0 ([] : List (ByteArray × Int)) ([] : List Int) ([] : List En))
def On (p_t : Nh) (j1 : (List En) → Option (List En)) : List (List Eh) → Nat → (List En) → Option (List En)
  | [],_,x1=>j1 x1
  | y1 :: ys1,i1,x1=>Option.bind (Yp p_t y1) (fun r3 =>
  Chk (decide (x1.length + r3.length < 1073741824)) (
  On p_t j1 ys1 (i1 + 1) (x1 ++ r3)))
def Sk (p_t : Nh) (p_l : List Eh) : Option (List En) :=
  Option.bind (Tw p_l) (fun r1 =>
  Hc (fun (x1 : List En) =>
  some x1) (fun j1 =>
  On p_t j1 r1 0 ([] : List En)))
def Nl (j1 : (List Lw) → Option ((List Lw) × Int)) : List En → Nat → (List Lw) → Option ((List Lw) × Int)
  | [],_,x1=>j1 x1
  | y1 :: ys1,i1,x1=>Chk (decide (y1.x_.Race.size + Qp.size < 1073741824)) (
  Chk (decide ((y1.x_.Race ++ Qp).size + y1.x_.Who.size < 1073741824)) (
  Chk (Sb x1.length) (
  Nl j1 ys1 (i1 + 1) (x1 ++ [(Lw.mk ((y1.x_.Race ++ Qp) ++ y1.x_.Who) y1.points_)]))))
def Vx (p_t : Nh) (p_l : List Eh) : Option ((List Lw) × Int) :=
  Option.bind (Th p_t p_l) (fun r1 =>
  if !decide (r1 = 0) then
  some (([] : List Lw),r1)
  else
  Option.bind (Sk p_t p_l) (fun r2 =>
  Hc (fun (x1 : List Lw) =>
  some (x1,0)) (fun j1 =>
  Nl j1 r2 0 ([] : List Lw))))
def Mp (p_r : Eu) (r1 : (List Ej) × (List (ByteArray × ByteArray)) × Int) (j1 : (List Eh) → Option ((List Jy) × Int)) : List Ej → Nat → (List Eh) → Option ((List Jy) × Int)
  | [],_,x1=>j1 x1
  | y1 :: ys1,i1,x1=>Chk (Sb x1.length) (
  Mp p_r r1 j1 ys1 (i1 + 1) (x1 ++ [(Eh.mk p_r.Key y1.Who (Et r1.2.1 y1.Who An) y1.Rank (decide (1 < p_r.Legs)))]))
def Nr (j2 : (List (ByteArray × Fo)) → Option ((List Jy) × Int)) : List Lw → Nat → (List (ByteArray × Fo)) → Option ((List Jy) × Int)
  | [],_,x2=>j2 x2
  | y2 :: ys2,i2,x2=>Nr j2 ys2 (i2 + 1) (Hj x2 y2.Key y2.Points)
def Mq (p_r : Eu) (r1 : (List Ej) × (List (ByteArray × ByteArray)) × Int) (x2 : List (ByteArray × Fo)) (j3 : (List Jy) → Option ((List Jy) × Int)) : List Ej → Nat → (List Jy) → Option ((List Jy) × Int)
  | [],_,x3=>j3 x3
  | y3 :: ys3,i3,x3=>Chk (decide (p_r.Key.size + Qp.size < 1073741824)) (
  Chk (decide ((p_r.Key ++ Qp).size + y3.Who.size < 1073741824)) (
  Hc (fun (x4 : Int) (x5 : Int) =>
  Chk (Sb x3.length) (
  Mq p_r r1 x2 j3 ys3 (i3 + 1) (x3 ++ [(Jy.mk y3.Rank y3.Who (Et r1.2.1 y3.Who An) y3.Time y3.Fault (Fo.mk x4 x5))]))) (fun j4 =>
  if !((Ut x2 ((p_r.Key ++ Qp) ++ y3.Who)).isSome) then
  j4 0 1
  else
  j4 ((Et x2 ((p_r.Key ++ Qp) ++ y3.Who) (Fo.mk 0 0)).Num) ((Et x2 ((p_r.Key ++ Qp) ++ y3.Who) (Fo.mk 0 0)).Den))))
def Rk (p_s_p : Ni) (p_s_deeds : List Eg) (p_r : Eu) : Option ((List Jy) × Int) :=
  Option.bind (Xq p_s_p p_s_deeds p_r.Key) (fun r1 =>
  if !decide (r1.2.2 = 0) then
  some (([] : List Jy),r1.2.2)
  else
  Hc (fun (x1 : List Eh) =>
  Option.bind (Ib x1) (fun r2 =>
  Option.bind (Vx p_s_p.Table r2) (fun r3 =>
  if !decide (r3.2 = 0) then
  some (([] : List Jy),r3.2)
  else
  Hc (fun (x2 : List (ByteArray × Fo)) =>
  Hc (fun (x3 : List Jy) =>
  some (x3,0)) (fun j3 =>
  Mq p_r r1 x2 j3 r1.1 0 ([] : List Jy))) (fun j2 =>
  Nr j2 r3.1 0 ([] : List (ByteArray × Fo)))))) (fun j1 =>
  Mp p_r r1 j1 r1.1 0 ([] : List Eh)))
def Xr (p_p : Ni) (p_l : List Eg) (p_race : ByteArray) (p_at : Int) : Option ((List Jy) × Int) :=
  Option.bind (CX p_p p_l p_race p_at) (fun r1 =>
  if !decide (r1.2.2 = 0) then
  some (([] : List Jy),r1.2.2)
  else
  Option.bind (r1.1) (fun r2 =>
  Option.bind (Rk r2.p_ r2.deeds_ r1.2.1) (fun r3 =>
  some (r3.1,r3.2))))
def Ja (p_a : Ex) (p_b : Ex) : Int :=
  if CD p_a.Id p_b.Id then
  (-1)
  else
  1
def Ev (p_a : Int) (j2 : (List Ex) → Option (List Ex)) : Nat → (List Ex) → Int → Option (List Ex)
  | 0,_,_=>none
  | m2 + 1,x3,x4=>Hc (fun (x5 : Bool) =>
  if x5 then
  Chk (inB (W (x4 - 1)) x3.length) (
  Chk (inB x4 x3.length) (
  Chk (inB x4 x3.length) (
  Chk (inB (W (x4 - 1)) (x3.set x4.toNat (nth x3 (W (x4 - 1)))).length) (
  Ev p_a j2 m2 ((x3.set x4.toNat (nth x3 (W (x4 - 1)))).set ((W (x4 - 1)).toNat) (nth x3 x4)) (W (x4 - 1))))))
  else
  j2 x3) (fun j3 =>
  if decide (p_a < x4) then
  Chk (inB x4 x3.length) (
  Chk (inB (W (x4 - 1)) x3.length) (
  j3 (decide ((Ja (nth x3 x4) (nth x3 (W (x4 - 1)))) < 0))))
  else
  j3 false)
def Fb (p_b : Int) (p_a : Int) (j1 : (List Ex) → Option (List Ex)) : Nat → (List Ex) → Int → Option (List Ex)
  | 0,_,_=>none
  | m1 + 1,x1,x2=>if decide (x2 < p_b) then
  Hc (fun (x3 : List Ex) =>
  Fb p_b p_a j1 m1 x3 (W (x2 + 1))) (fun j2 =>
  Ev p_a j2 ((x2 - p_a).toNat + 2) x1 x2)
  else
  j1 x1
def Hr (p_data : List Ex) (p_a : Int) (p_b : Int) : Option (List Ex) :=
  Hc (fun (x1 : List Ex) =>
  some x1) (fun j1 =>
  Fb p_b p_a j1 ((p_b - (W (p_a + 1))).toNat + 2) p_data (W (p_a + 1)))
def Fw (p_data : List Ex) : Nat → Int → Int → Int → Bool → Option (List Ex)
  | 0,_,_,_,_=>none
  | _ + 1,x1,x2,x3,x4=>if decide ((W (x2 - x1)) ≤ 12) then
  Option.bind (Hr p_data x1 x2) (fun r1 =>
  some r1)
  else
  if decide (x3 = 0) then
  none
  else
  if !x4 then
  none
  else
  none
def Jg (p_data : List Ex) (p_a : Int) (p_b : Int) (p_limit : Int) : Option (List Ex) :=
  Fw p_data 4611686018427387904 p_a p_b p_limit true
def Ix (p_x : List Ex) : Option (List Ex) :=
  Option.bind (CW (IntKind.wrap .u64 (p_x.length : Int))) (fun r1 =>
  Option.bind (Jg p_x 0 (p_x.length : Int) r1) (fun r2 =>
  some r2))
def Mx (y1 : Mw) (j4 : Option Int) : List ByteArray → Nat → Option Int
  | [],_=>j4
  | y2 :: ys2,i2=>Option.bind (Gy y2) (fun r5 =>
  if !r5 then
  some 5
  else
  Hc (fun (c3 : Bool) =>
  if c3 then
  some 7
  else
  Mx y1 j4 ys2 (i2 + 1)) (fun j5 =>
  if (decide (0 < (i2 : Int))) then Chk (inB (W ((i2 : Int) - 1)) y1.Clubs.length) (
  j5 ((decide (0 < (i2 : Int))) && (CD y2 (nth y1.Clubs (W ((i2 : Int) - 1))) || decide (y2 = (nth y1.Clubs (W ((i2 : Int) - 1))))))) else j5 ((decide (0 < (i2 : Int))) && true)))
def My (p_l : List Mw) (j1 : Option Int) : List Mw → Nat → Option Int
  | [],_=>j1
  | y1 :: ys1,i1=>Option.bind (Gy y1.Key) (fun r2 =>
  Hc (fun (c1 : Bool) =>
  if c1 then
  some 5
  else
  Hc (fun (c2 : Bool) =>
  if c2 then
  some 7
  else
  if decide (100 < (y1.Clubs.length : Int)) then
  some 2
  else
  Hc (if (((decide (y1.Young < 0)) || (decide (y1.Old < y1.Young))) || (decide (150 < y1.Old))) then
  some 1
  else
  My p_l j1 ys1 (i1 + 1)) (fun j4 =>
  Mx y1 j4 y1.Clubs 0)) (fun j3 =>
  if (decide (0 < (i1 : Int))) then Chk (inB (W ((i1 : Int) - 1)) p_l.length) (
  j3 ((decide (0 < (i1 : Int))) && (CD y1.Key ((nth p_l (W ((i1 : Int) - 1))).Key) || decide (y1.Key = ((nth p_l (W ((i1 : Int) - 1))).Key))))) else j3 ((decide (0 < (i1 : Int))) && true))) (fun j2 =>
  if (!r2) then j2 ((!r2) || true) else Option.bind (Gy y1.Race) (fun r3 =>
  j2 ((!r2) || (!r3)))))
def Uy (p_l : List Mw) : Option Int :=
  if decide (50 < (p_l.length : Int)) then
  some 2
  else
  Hc (some 0) (fun j1 =>
  My p_l j1 p_l 0)
def Qk (p_n : Int) : Bool :=
  (El p_n 1 360000)
def Ti (p_x : Ex) : Option Int :=
  Hc (some 0) (fun j1 =>
  if !(Ji p_x.At) then
  some 1
  else
  if !(El p_x.Kind 1 3) then
  some 4
  else
  Option.bind (Gy p_x.Id) (fun r1 =>
  if !r1 then
  some 5
  else
  Hc (j1) (fun j2 =>
  if !decide (p_x.Kind = 1) then
  if !decide (p_x = (Ex.mk p_x.At p_x.Kind p_x.Id An An An 0 0)) then
  some 3
  else
  j2
  else
  Option.bind (Gy p_x.Who) (fun r2 =>
  Hc (fun (c1 : Bool) =>
  Hc (fun (c2 : Bool) =>
  if c2 then
  some 5
  else
  if ((!(El p_x.Age 0 150)) || (!(Qk p_x.Time))) then
  some 1
  else
  j2) (fun j4 =>
  if c1 then j4 (c1 || true) else Hc (fun (c3 : Bool) =>
  j4 (c1 || c3)) (fun j5 =>
  if (!decide (p_x.Club = An)) then Option.bind (Gy p_x.Club) (fun r4 =>
  j5 ((!decide (p_x.Club = An)) && (!r4))) else j5 ((!decide (p_x.Club = An)) && true)))) (fun j3 =>
  if (!r2) then j3 ((!r2) || true) else Option.bind (Gy p_x.Race) (fun r3 =>
  j3 ((!r2) || (!r3))))))))
def Tj (p_a : Ex) (p_b : Ex) : Int :=
  (Rt [(Hx p_a.At p_b.At),(Ho p_a.Id p_b.Id),(Hx p_a.Kind p_b.Kind)])
def La (p_l : List Ex) (j1 : Option Int) : List Ex → Nat → Option Int
  | [],_=>j1
  | y1 :: ys1,i1=>Option.bind (Ti y1) (fun r1 =>
  if !decide (r1 = 0) then
  some r1
  else
  Hc (fun (x1 : Bool) =>
  if x1 then
  some 7
  else
  La p_l j1 ys1 (i1 + 1)) (fun j2 =>
  if decide (0 < (i1 : Int)) then
  Chk (inB (W ((i1 : Int) - 1)) p_l.length) (
  j2 (decide (0 ≤ (Tj (nth p_l (W ((i1 : Int) - 1))) y1))))
  else
  j2 false))
def Sl (p_l : List Ex) : Option Int :=
  if decide (1000 < (p_l.length : Int)) then
  some 2
  else
  Hc (some 0) (fun j1 =>
  La p_l j1 p_l 0)
def Vy (p_k : List Mw) (p_l : List Ex) : Option Int :=
  Option.bind (Uy p_k) (fun r1 =>
  if !decide (r1 = 0) then
  some r1
  else
  Option.bind (Sl p_l) (fun r2 =>
  some r2))
def Vz (p_x : Mw) (p_a1 : ByteArray) : Bool :=
  decide (p_x.Key = p_a1)
def Hm (p_f_0 : ByteArray) (j1 : Int) : List Mw → Nat → Int
  | [],_=>j1
  | y1 :: ys1,i1=>if (Vz y1 p_f_0) then
  (i1 : Int)
  else
  Hm p_f_0 j1 ys1 (i1 + 1)
def Ly (p_s : List Mw) (p_f_0 : ByteArray) : Int :=
  Hc ((-1)) (fun j1 =>
  Hm p_f_0 j1 p_s 0)
def Jl (p_k : List Mw) (p_key : ByteArray) : Int :=
  (Ly p_k p_key)
def CY (x : List Ep) (k : ByteArray) : Option Nat:=x.findIdx? (fun s=>decide (k = s.s_.Id))
def CZ (x : List Ep) (k : ByteArray) : Nat:=(CY x k).getD 0
def Ty (x : List Ep) (k : ByteArray) : Ep:=x.getD (CZ x k) default
def Mr (p_at : Int) (j1 : (List Ep) → (List Int) → Option ((List Ep) × (List Int))) : List Ex → Nat → (List Ep) → (List Int) → Option ((List Ep) × (List Int))
  | [],_,x1,x2=>j1 x1 x2
  | y1 :: ys1,i1,x1,x2=>if decide (p_at < y1.At) then
  j1 x1 x2
  else
  Hc (fun (x3 : List Ep) (x4 : List Int) =>
  Mr p_at j1 ys1 (i1 + 1) x3 x4) (fun j2 =>
  Hc (fun (x5 : List Ep) (x6 : List Int) =>
  j2 x5 x6) (fun j3 =>
  if ((decide (y1.Kind = 1)) && (CY x1 y1.Id).isNone) then
  Chk (Sb x1.length) (
  j3 (x1 ++ [(Ep.mk y1 false false)]) x2)
  else
  Hc (fun (x7 : List Ep) (x8 : List Int) =>
  j3 x7 x8) (fun j4 =>
  if ((((decide (y1.Kind = 2)) && (CY x1 y1.Id).isSome) && (!((Ty x1 y1.Id).sure_))) && (!((Ty x1 y1.Id).void_))) then
  j4 (x1.set (CZ x1 y1.Id) (Ep.mk (Ty x1 y1.Id).s_ true (Ty x1 y1.Id).void_)) x2
  else
  Hc (fun (x9 : List Ep) (x10 : List Int) =>
  j4 x9 x10) (fun j5 =>
  if (((decide (y1.Kind = 3)) && (CY x1 y1.Id).isSome) && (!((Ty x1 y1.Id).void_))) then
  j5 (x1.set (CZ x1 y1.Id) (Ep.mk (Ty x1 y1.Id).s_ (Ty x1 y1.Id).sure_ true)) x2
  else
  Chk (Sb x2.length) (
  j5 x1 (x2 ++ [(i1 : Int)]))))))
def Wq (p_l : List Ex) (p_at : Int) : Option ((List Ep) × (List Int)) :=
  Hc (fun (x1 : List Ep) (x2 : List Int) =>
  some (x1,x2)) (fun j1 =>
  Mr p_at j1 p_l 0 ([] : List Ep) ([] : List Int))
def BR (p_k : List Mw) (p_l : List Ex) (p_kind : ByteArray) (p_at : Int) : Option (Mw × (List Ep) × Int) :=
  Option.bind (Vy p_k p_l) (fun r1 =>
  if !decide (r1 = 0) then
  some ((Mw.mk An An ([] : List ByteArray) 0 0),([] : List Ep),r1)
  else
  if decide ((Jl p_k p_kind) < 0) then
  some ((Mw.mk An An ([] : List ByteArray) 0 0),([] : List Ep),8)
  else
  if !(Ji p_at) then
  some ((Mw.mk An An ([] : List ByteArray) 0 0),([] : List Ep),1)
  else
  Option.bind (Wq p_l p_at) (fun r2 =>
  Chk (inB (Jl p_k p_kind) p_k.length) (
  some ((nth p_k (Jl p_k p_kind)),r2.1,0))))
def Lz (p_v : ByteArray) (j1 : Int) : List ByteArray → Nat → Int
  | [],_=>j1
  | y1 :: ys1,i1=>if decide (p_v = y1) then
  (i1 : Int)
  else
  Lz p_v j1 ys1 (i1 + 1)
def Wk (p_s : List ByteArray) (p_v : ByteArray) : Int :=
  Hc ((-1)) (fun j1 =>
  Lz p_v j1 p_s 0)
def Kv (p_s : List ByteArray) (p_v : ByteArray) : Bool :=
  decide (0 ≤ (Wk p_s p_v))
def Wa (p_k : Mw) (p_s : Ex) : Bool :=
  (((decide (p_s.Race = p_k.Race)) && ((decide ((p_k.Clubs.length : Int) = 0)) || (Kv p_k.Clubs p_s.Club))) && (El p_s.Age p_k.Young p_k.Old))
def Pg (p_k : Mw) (p_x_s : Ex) (p_x_sure : Bool) (p_x_void : Bool) : Hp :=
  (Hp.mk p_k.Key p_x_s.Id p_x_s.Who p_x_s.Time p_x_s.At p_x_sure)
def Ma (p_k : Mw) (j1 : (List Hp) → Option (List Hp)) : List Ep → Nat → (List Hp) → Option (List Hp)
  | [],_,x1=>j1 x1
  | y1 :: ys1,i1,x1=>Hc (fun (x2 : List Hp) =>
  Ma p_k j1 ys1 (i1 + 1) x2) (fun j2 =>
  Hc (fun (x3 : Bool) =>
  if x3 then
  j2 x1
  else
  Hc (fun (c1 : Bool) =>
  Hc (fun (x4 : List Hp) =>
  j2 x4) (fun j5 =>
  if c1 then
  Chk (Sb x1.length) (
  j5 (x1 ++ [(Pg p_k y1.s_ y1.sure_ y1.void_)]))
  else
  j5 x1)) (fun j4 =>
  if (decide ((x1.length : Int) = 0)) then j4 ((decide ((x1.length : Int) = 0)) || true) else Chk (inB (W ((x1.length : Int) - 1)) x1.length) (
  j4 ((decide ((x1.length : Int) = 0)) || (decide (y1.s_.Time ≤ ((nth x1 (W ((x1.length : Int) - 1))).Time))))))) (fun j3 =>
  if y1.void_ then
  j3 true
  else
  j3 (!(Wa p_k y1.s_))))
def Vn (p_k : Mw) (p_all : List Ep) : Option (List Hp) :=
  Hc (fun (x1 : List Hp) =>
  some x1) (fun j1 =>
  Ma p_k j1 p_all 0 ([] : List Hp))
def Lc (r1 : (List Hp)) (j1 : Option (List Hp)) : List Hp → Nat → Option (List Hp)
  | [],_=>j1
  | y1 :: ys1,i1=>Chk (inB (W ((r1.length : Int) - 1)) r1.length) (
  if decide (y1.Time = ((nth r1 (W ((r1.length : Int) - 1))).Time)) then
  Chk (CI (i1 : Int) (r1.length : Int) r1.length) (
  some (cut r1 (i1 : Int) r1.length))
  else
  Lc r1 j1 ys1 (i1 + 1))
def St (p_k : Mw) (p_all : List Ep) : Option (List Hp) :=
  Option.bind (Vn p_k p_all) (fun r1 =>
  Hc (some ([] : List Hp)) (fun j1 =>
  Lc r1 j1 r1 0))
def Uz (p_s : List Hp) : Option (List Hp) :=
  Chk (decide ((([] : List Hp) : List Hp).length + p_s.length < 1073741824)) (
  some ((([] : List Hp) : List Hp) ++ p_s))
def Wr (p_k : List Mw) (p_l : List Ex) (p_kind : ByteArray) (p_at : Int) : Option ((List Hp) × Int) :=
  Option.bind (BR p_k p_l p_kind p_at) (fun r1 =>
  if !decide (r1.2.2 = 0) then
  some (([] : List Hp),r1.2.2)
  else
  Option.bind (St r1.1 r1.2.1) (fun r2 =>
  Option.bind (Uz r2) (fun r3 =>
  some (r3,0))))
def Ny (p_b : Hp) (p_a1 : Jy) : Bool :=
  decide (p_b.Who = p_a1.Who)
def Ff (p_f_0 : Jy) (j1 : Int) : List Hp → Nat → Int
  | [],_=>j1
  | y1 :: ys1,i1=>if (Ny y1 p_f_0) then
  (i1 : Int)
  else
  Ff p_f_0 j1 ys1 (i1 + 1)
def Jo (p_s : List Hp) (p_f_0 : Jy) : Int :=
  Hc ((-1)) (fun j1 =>
  Ff p_f_0 j1 p_s 0)
def Jk (p_s : List Hp) (p_f_0 : Jy) : Bool :=
  decide (0 ≤ (Jo p_s p_f_0))
def Ze (p_year : Int) : Bool :=
  ((decide ((Int.tmod p_year 4) = 0)) && ((!decide ((Int.tmod p_year 100) = 0)) || (decide ((Int.tmod p_year 400) = 0))))
def Ov (p_year : Int) (p_month : Int) : Int :=
  if decide (p_month = 2) then
  if (Ze p_year) then
  29
  else
  28
  else
  Hc (fun (x1 : Bool) =>
  if x1 then
  30
  else
  31) (fun j1 =>
  if decide (p_month = 4) then
  j1 (decide (p_month = 4))
  else
  Hc (fun (x2 : Bool) =>
  j1 x2) (fun j2 =>
  if decide (p_month = 6) then
  j2 (decide (p_month = 6))
  else
  Hc (fun (x3 : Bool) =>
  j2 x3) (fun j3 =>
  if decide (p_month = 9) then
  j3 (decide (p_month = 9))
  else
  j3 (decide (p_month = 11)))))
def Rp (p_year : Int) : Int :=
  if (Ze p_year) then
  366
  else
  365
def AJ (p_n : Int) : Bool :=
  (El p_n (-40000) 4000)
def Ph (p_d : Nv) (j2 : Int → Option (Int × Int)) : Nat → Int → Int → Option (Int × Int)
  | 0,_,_=>none
  | m1 + 1,x2,x3=>if decide (x3 < p_d.Month) then
  Ph p_d j2 m1 (W (x2 + (Ov p_d.Year x3))) (W (x3 + 1))
  else
  j2 x2
def Pi (p_d : Nv) (j3 : Int → Option (Int × Int)) : Nat → Int → Int → Option (Int × Int)
  | 0,_,_=>none
  | m2 + 1,x4,x5=>if decide (x5 < p_d.Year) then
  Pi p_d j3 m2 (W (x4 + (Rp x5))) (W (x5 + 1))
  else
  j3 x4
def Pj (j4 : Int → Option (Int × Int)) : Nat → Int → Int → Option (Int × Int)
  | 0,_,_=>none
  | m3 + 1,x6,x7=>if decide (x7 < 2024) then
  Pj j4 m3 (W (x6 - (Rp x7))) (W (x7 + 1))
  else
  j4 x6
def AK (p_d : Nv) : Option (Int × Int) :=
  Hc (fun (x1 : Bool) =>
  if x1 then
  some (0,1)
  else
  Hc (fun (x2 : Int) =>
  Hc (fun (x4 : Int) =>
  Hc (fun (x6 : Int) =>
  if !(AJ x6) then
  some (0,1)
  else
  some (x6,0)) (fun j4 =>
  Pj j4 ((2024 - p_d.Year).toNat + 2) x4 p_d.Year)) (fun j3 =>
  Pi p_d j3 ((p_d.Year - 2024).toNat + 2) x2 2024)) (fun j2 =>
  Ph p_d j2 ((p_d.Month - 1).toNat + 2) (W (p_d.Day - 1)) 1)) (fun j1 =>
  if !(El p_d.Year 1900 2100) then
  if true then
  j1 true
  else
  j1 (!(El p_d.Day 1 (Ov p_d.Year p_d.Month)))
  else
  if !(El p_d.Month 1 12) then
  j1 true
  else
  j1 (!(El p_d.Day 1 (Ov p_d.Year p_d.Month))))
def Mf (j1 : (List (ByteArray × Bool)) → Option Int) : List Oy → Nat → (List (ByteArray × Bool)) → Option Int
  | [],_,x1=>j1 x1
  | y1 :: ys1,i1,x1=>Option.bind (Gy y1.Key) (fun r1 =>
  if !r1 then
  some 5
  else
  if Et x1 y1.Key false then
  some 6
  else
  if ((((!(El y1.Heats 1 60)) || (!(El y1.Long 1 3600000))) || (!(El y1.Gap 0 3600000))) || (!(El y1.Break 0 3600000))) then
  some 1
  else
  Mf j1 ys1 (i1 + 1) (Hj x1 y1.Key true))
def Xb (p_l : List Oy) : Option Int :=
  if decide (100 < (p_l.length : Int)) then
  some 2
  else
  Hc (fun (x1 : List (ByteArray × Bool)) =>
  some 0) (fun j1 =>
  Mf j1 p_l 0 ([] : List (ByteArray × Bool)))
def Mz (y1 : Oy) (j2 : (List Lx) → Int → Option (List Lx)) : Nat → (List Lx) → Int → Int → Option (List Lx)
  | 0,_,_,_=>none
  | m1 + 1,x3,x4,x5=>if decide (x5 ≤ y1.Heats) then
  Hc (fun (x6 : List Lx) (x7 : Int) =>
  Mz y1 j2 m1 x6 x7 (W (x5 + 1))) (fun j3 =>
  Chk (Sb x3.length) (
  Hc (fun (x8 : Int) =>
  j3 (x3 ++ [(Lx.mk y1.Key x5 (Vv.mk x4 (W (x4 + y1.Long))))]) x8) (fun j4 =>
  if decide (x5 < y1.Heats) then
  j4 (W ((W (x4 + y1.Long)) + y1.Gap))
  else
  j4 (W (x4 + y1.Long)))))
  else
  j2 x3 x4
def Na (j1 : (List Lx) → Option (List Lx)) : List Oy → Nat → (List Lx) → Int → Option (List Lx)
  | [],_,x1,_=>j1 x1
  | y1 :: ys1,i1,x1,x2=>Hc (fun (x3 : List Lx) (x4 : Int) =>
  Na j1 ys1 (i1 + 1) x3 (W (x4 + y1.Break))) (fun j2 =>
  Mz y1 j2 ((y1.Heats - 1).toNat + 2) x1 x2 1)
def Xs (p_l : List Oy) (p_from : Int) : Option (List Lx) :=
  Hc (fun (x1 : List Lx) =>
  some x1) (fun j1 =>
  Na j1 p_l 0 ([] : List Lx) p_from)
def AB (p_l : List Lx) (p_from : Int) : Option Int :=
  if decide ((p_l.length : Int) = 0) then
  some p_from
  else
  Chk (inB (W ((p_l.length : Int) - 1)) p_l.length) (
  some (((nth p_l (W ((p_l.length : Int) - 1))).Time).To))
def AL (p_l : List Oy) (p_from : Int) : Option ((List Lx) × Int) :=
  if !(Ji p_from) then
  some (([] : List Lx),1)
  else
  Option.bind (Xs p_l p_from) (fun r1 =>
  Option.bind (AB r1 p_from) (fun r2 =>
  if decide (345686400000 < r2) then
  some (([] : List Lx),1)
  else
  some (r1,0)))
def Xt (p_l : List Oy) (p_from : Int) : Option ((List Lx) × Int) :=
  Option.bind (Xb p_l) (fun r1 =>
  if !decide (r1 = 0) then
  some (([] : List Lx),r1)
  else
  Option.bind (AL p_l p_from) (fun r2 =>
  some (r2.1,r2.2)))
def BS (p_l : List Oy) (p_from : Int) : Option (Int × Int) :=
  Option.bind (Xt p_l p_from) (fun r1 =>
  if !decide (r1.2 = 0) then
  some (0,r1.2)
  else
  Option.bind (AB r1.1 p_from) (fun r2 =>
  some (r2,0)))
def Ns (p_l : List Sw) (j1 : Option Int) : List Sw → Nat → Option Int
  | [],_=>j1
  | y1 :: ys1,i1=>Option.bind (Gy y1.Race) (fun r1 =>
  if !r1 then
  some 5
  else
  Hc (fun (c1 : Bool) =>
  if c1 then
  some 7
  else
  if !(Qk y1.Time) then
  some 1
  else
  Ns p_l j1 ys1 (i1 + 1)) (fun j2 =>
  if (decide (0 < (i1 : Int))) then Chk (inB (W ((i1 : Int) - 1)) p_l.length) (
  j2 ((decide (0 < (i1 : Int))) && (CD y1.Race ((nth p_l (W ((i1 : Int) - 1))).Race) || decide (y1.Race = ((nth p_l (W ((i1 : Int) - 1))).Race))))) else j2 ((decide (0 < (i1 : Int))) && true)))
def Yd (p_l : List Sw) : Option Int :=
  if decide (500 < (p_l.length : Int)) then
  some 2
  else
  Hc (some 0) (fun j1 =>
  Ns p_l j1 p_l 0)
def Pk (p_race : ByteArray) (j1 : Int) : List Sw → Nat → Int
  | [],_=>j1
  | y1 :: ys1,i1=>if decide (y1.Race = p_race) then
  y1.Time
  else
  Pk p_race j1 ys1 (i1 + 1)
def Ur (p_l : List Sw) (p_race : ByteArray) : Int :=
  Hc (0) (fun j1 =>
  Pk p_race j1 p_l 0)
def Tz (p_x : Int) (p_y : Int) : (Int × Int) :=
  (IntKind.wrap .u64 ((IntKind.wrap .u64 ((IntKind.wrap .u64 ((Hq .u64 p_x 32) * (Hq .u64 p_y 32))) + (Hq .u64 (IntKind.wrap .u64 ((IntKind.wrap .u64 ((Hq .u64 p_x 32) * (Oz .u64 p_y 4294967295))) + (Hq .u64 (IntKind.wrap .u64 ((Oz .u64 p_x 4294967295) * (Oz .u64 p_y 4294967295))) 32))) 32))) + (Hq .u64 (IntKind.wrap .u64 ((Oz .u64 (IntKind.wrap .u64 ((IntKind.wrap .u64 ((Hq .u64 p_x 32) * (Oz .u64 p_y 4294967295))) + (Hq .u64 (IntKind.wrap .u64 ((Oz .u64 p_x 4294967295) * (Oz .u64 p_y 4294967295))) 32))) 4294967295) + (IntKind.wrap .u64 ((Oz .u64 p_x 4294967295) * (Hq .u64 p_y 32))))) 32)),IntKind.wrap .u64 (p_x * p_y))
def Wl (p_x : Int) : Option Int :=
  Option.bind (BP p_x) (fun r1 =>
  some (W (64 - r1)))
def Rl (p_lo : Int) (r1 : Int) (p_y : Int) (j1 : Int → Option (Int × Int)) : Nat → Int → Int → Option (Int × Int)
  | 0,_,_=>none
  | m1 + 1,x1,x2=>if ((decide (4294967296 ≤ x1)) || (decide ((IntKind.wrap .u64 ((IntKind.wrap .u64 (4294967296 * x2)) + (Hq .u64 (Gm .u64 p_lo (IntKind.wrap .u64 r1)) 32))) < (IntKind.wrap .u64 (x1 * (Oz .u64 (Gm .u64 p_y (IntKind.wrap .u64 r1)) 4294967295)))))) then
  if decide (4294967296 ≤ (IntKind.wrap .u64 (x2 + (Hq .u64 (Gm .u64 p_y (IntKind.wrap .u64 r1)) 32)))) then
  j1 (IntKind.wrap .u64 (x1 - 1))
  else
  Rl p_lo r1 p_y j1 m1 (IntKind.wrap .u64 (x1 - 1)) (IntKind.wrap .u64 (x2 + (Hq .u64 (Gm .u64 p_y (IntKind.wrap .u64 r1)) 32)))
  else
  j1 x1
def Ro (p_lo : Int) (r1 : Int) (p_y : Int) (j2 : Int → Option (Int × Int)) : Nat → Int → Int → Option (Int × Int)
  | 0,_,_=>none
  | m2 + 1,x3,x4=>if ((decide (4294967296 ≤ x4)) || (decide ((IntKind.wrap .u64 ((IntKind.wrap .u64 (4294967296 * x3)) + (Oz .u64 (Gm .u64 p_lo (IntKind.wrap .u64 r1)) 4294967295))) < (IntKind.wrap .u64 (x4 * (Oz .u64 (Gm .u64 p_y (IntKind.wrap .u64 r1)) 4294967295)))))) then
  if decide (4294967296 ≤ (IntKind.wrap .u64 (x3 + (Hq .u64 (Gm .u64 p_y (IntKind.wrap .u64 r1)) 32)))) then
  j2 (IntKind.wrap .u64 (x4 - 1))
  else
  Ro p_lo r1 p_y j2 m2 (IntKind.wrap .u64 (x3 + (Hq .u64 (Gm .u64 p_y (IntKind.wrap .u64 r1)) 32))) (IntKind.wrap .u64 (x4 - 1))
  else
  j2 x4
def FF (p_hi : Int) (p_lo : Int) (p_y : Int) : Option (Int × Int) :=
  if decide (p_y = 0) then
  none
  else
  if decide (p_y ≤ p_hi) then
  none
  else
  if decide (p_hi = 0) then
  Chk (!decide (p_y = 0)) (
  Chk (!decide (p_y = 0)) (
  some (IntKind.wrap .u64 (Int.tdiv p_lo p_y),Int.tmod p_lo p_y)))
  else
  Option.bind (Wl p_y) (fun r1 =>
  Chk (decide (0 ≤ (IntKind.wrap .u64 r1))) (
  Chk (decide (0 ≤ (IntKind.wrap .u64 r1))) (
  Chk (decide (0 ≤ (IntKind.wrap .u64 (64 - (IntKind.wrap .u64 r1))))) (
  Chk (decide (0 ≤ (IntKind.wrap .u64 r1))) (
  Chk (!decide ((Hq .u64 (Gm .u64 p_y (IntKind.wrap .u64 r1)) 32) = 0)) (
  Hc (fun (x1 : Int) =>
  Chk (!decide ((Hq .u64 (Gm .u64 p_y (IntKind.wrap .u64 r1)) 32) = 0)) (
  Hc (fun (x4 : Int) =>
  Chk (decide (0 ≤ (IntKind.wrap .u64 r1))) (
  some (IntKind.wrap .u64 ((IntKind.wrap .u64 (x1 * 4294967296)) + x4),Hq .u64 (IntKind.wrap .u64 ((IntKind.wrap .u64 ((IntKind.wrap .u64 ((IntKind.wrap .u64 ((IntKind.wrap .u64 ((IntKind.wrap .u64 ((Ue .u64 (Gm .u64 p_hi (IntKind.wrap .u64 r1)) (Hq .u64 p_lo (IntKind.wrap .u64 (64 - (IntKind.wrap .u64 r1))))) * 4294967296)) + (Hq .u64 (Gm .u64 p_lo (IntKind.wrap .u64 r1)) 32))) - (IntKind.wrap .u64 (x1 * (Gm .u64 p_y (IntKind.wrap .u64 r1)))))) * 4294967296)) + (Oz .u64 (Gm .u64 p_lo (IntKind.wrap .u64 r1)) 4294967295))) - (IntKind.wrap .u64 (x4 * (Gm .u64 p_y (IntKind.wrap .u64 r1)))))) (IntKind.wrap .u64 r1)))) (fun j2 =>
  Ro p_lo r1 p_y j2 (((IntKind.wrap .u64 (Int.tdiv (IntKind.wrap .u64 ((IntKind.wrap .u64 ((IntKind.wrap .u64 ((Ue .u64 (Gm .u64 p_hi (IntKind.wrap .u64 r1)) (Hq .u64 p_lo (IntKind.wrap .u64 (64 - (IntKind.wrap .u64 r1))))) * 4294967296)) + (Hq .u64 (Gm .u64 p_lo (IntKind.wrap .u64 r1)) 32))) - (IntKind.wrap .u64 (x1 * (Gm .u64 p_y (IntKind.wrap .u64 r1)))))) (Hq .u64 (Gm .u64 p_y (IntKind.wrap .u64 r1)) 32))) - 4294967296).toNat + 2) (IntKind.wrap .u64 ((IntKind.wrap .u64 ((IntKind.wrap .u64 ((IntKind.wrap .u64 ((Ue .u64 (Gm .u64 p_hi (IntKind.wrap .u64 r1)) (Hq .u64 p_lo (IntKind.wrap .u64 (64 - (IntKind.wrap .u64 r1))))) * 4294967296)) + (Hq .u64 (Gm .u64 p_lo (IntKind.wrap .u64 r1)) 32))) - (IntKind.wrap .u64 (x1 * (Gm .u64 p_y (IntKind.wrap .u64 r1)))))) - (IntKind.wrap .u64 ((IntKind.wrap .u64 (Int.tdiv (IntKind.wrap .u64 ((IntKind.wrap .u64 ((IntKind.wrap .u64 ((Ue .u64 (Gm .u64 p_hi (IntKind.wrap .u64 r1)) (Hq .u64 p_lo (IntKind.wrap .u64 (64 - (IntKind.wrap .u64 r1))))) * 4294967296)) + (Hq .u64 (Gm .u64 p_lo (IntKind.wrap .u64 r1)) 32))) - (IntKind.wrap .u64 (x1 * (Gm .u64 p_y (IntKind.wrap .u64 r1)))))) (Hq .u64 (Gm .u64 p_y (IntKind.wrap .u64 r1)) 32))) * (Hq .u64 (Gm .u64 p_y (IntKind.wrap .u64 r1)) 32))))) (IntKind.wrap .u64 (Int.tdiv (IntKind.wrap .u64 ((IntKind.wrap .u64 ((IntKind.wrap .u64 ((Ue .u64 (Gm .u64 p_hi (IntKind.wrap .u64 r1)) (Hq .u64 p_lo (IntKind.wrap .u64 (64 - (IntKind.wrap .u64 r1))))) * 4294967296)) + (Hq .u64 (Gm .u64 p_lo (IntKind.wrap .u64 r1)) 32))) - (IntKind.wrap .u64 (x1 * (Gm .u64 p_y (IntKind.wrap .u64 r1)))))) (Hq .u64 (Gm .u64 p_y (IntKind.wrap .u64 r1)) 32)))))) (fun j1 =>
  Rl p_lo r1 p_y j1 (((IntKind.wrap .u64 (Int.tdiv (Ue .u64 (Gm .u64 p_hi (IntKind.wrap .u64 r1)) (Hq .u64 p_lo (IntKind.wrap .u64 (64 - (IntKind.wrap .u64 r1))))) (Hq .u64 (Gm .u64 p_y (IntKind.wrap .u64 r1)) 32))) - 4294967296).toNat + 2) (IntKind.wrap .u64 (Int.tdiv (Ue .u64 (Gm .u64 p_hi (IntKind.wrap .u64 r1)) (Hq .u64 p_lo (IntKind.wrap .u64 (64 - (IntKind.wrap .u64 r1))))) (Hq .u64 (Gm .u64 p_y (IntKind.wrap .u64 r1)) 32))) (IntKind.wrap .u64 ((Ue .u64 (Gm .u64 p_hi (IntKind.wrap .u64 r1)) (Hq .u64 p_lo (IntKind.wrap .u64 (64 - (IntKind.wrap .u64 r1))))) - (IntKind.wrap .u64 ((IntKind.wrap .u64 (Int.tdiv (Ue .u64 (Gm .u64 p_hi (IntKind.wrap .u64 r1)) (Hq .u64 p_lo (IntKind.wrap .u64 (64 - (IntKind.wrap .u64 r1))))) (Hq .u64 (Gm .u64 p_y (IntKind.wrap .u64 r1)) 32))) * (Hq .u64 (Gm .u64 p_y (IntKind.wrap .u64 r1)) 32))))))))))))
def AM (p_base : Int) (p_time : Int) : Option Int :=
  if decide ((IntKind.wrap .u64 ((IntKind.wrap .u64 ((IntKind.wrap .u64 p_time) * (IntKind.wrap .u64 p_time))) * (IntKind.wrap .u64 p_time))) ≤ ((Tz (IntKind.wrap .u64 ((IntKind.wrap .u64 ((IntKind.wrap .u64 p_base) * (IntKind.wrap .u64 p_base))) * (IntKind.wrap .u64 p_base))) 1000).1)) then
  some 1000000000
  else
  Option.bind (FF ((Tz (IntKind.wrap .u64 ((IntKind.wrap .u64 ((IntKind.wrap .u64 p_base) * (IntKind.wrap .u64 p_base))) * (IntKind.wrap .u64 p_base))) 1000).1) ((Tz (IntKind.wrap .u64 ((IntKind.wrap .u64 ((IntKind.wrap .u64 p_base) * (IntKind.wrap .u64 p_base))) * (IntKind.wrap .u64 p_base))) 1000).2) (IntKind.wrap .u64 ((IntKind.wrap .u64 ((IntKind.wrap .u64 p_time) * (IntKind.wrap .u64 p_time))) * (IntKind.wrap .u64 p_time)))) (fun r1 =>
  some (W (imin r1.1 1000000000)))
def AN (p_l : List Sw) (p_race : ByteArray) (p_time : Int) : Option (Int × Int) :=
  Option.bind (Yd p_l) (fun r1 =>
  if !decide (r1 = 0) then
  some (0,r1)
  else
  if decide ((Ur p_l p_race) = 0) then
  some (0,8)
  else
  if !(Qk p_time) then
  some (0,1)
  else
  Option.bind (AM (Ur p_l p_race) p_time) (fun r2 =>
  some (r2,0)))
def Wb : Option Bool :=
  Option.bind (AK (Nv.mk 2024 3 1)) (fun r1 =>
  Option.bind (BS [(Oy.mk k_a 2 10 5 0)] 0) (fun r2 =>
  Option.bind (AN [(Sw.mk k_r 3000)] k_r 6000) (fun r3 =>
  some ((((((decide (r1.2 = 0)) && (decide (r2.2 = 0))) && (decide (r3.2 = 0))) && (decide (r1.1 = 60))) && (decide (r2.1 = 25))) && (decide (r3.1 = 125))))))
def Hz (y1 : Eu) (j2 : (List Ex) → Option Bool) : List Jy → Nat → (List Ex) → Option Bool
  | [],_,x1=>j2 x1
  | y2 :: ys2,i2,x1=>Hc (fun (x2 : List Ex) =>
  Hz y1 j2 ys2 (i2 + 1) x2) (fun j3 =>
  Hc (fun (x3 : List Ex) =>
  j3 x3) (fun j4 =>
  if decide (0 < y2.Rank) then
  Chk (Sb x1.length) (
  j4 (x1 ++ [(Ex.mk 5 1 y2.Who y2.Who An y1.Key 0 y2.Time)]))
  else
  j4 x1))
def Ip (r6 : (List Hp) × Int) (j5 : Option Bool) : List Jy → Nat → Option Bool
  | [],_=>j5
  | y3 :: ys3,i3=>if !decide ((Jk r6.1 y3) = (decide (y3.Rank = 1))) then
  some false
  else
  Ip r6 j5 ys3 (i3 + 1)
def Iq (r1 : Ni × Int) (r3 : (List Eg) × Int) (j1 : Option Bool) : List Eu → Nat → Option Bool
  | [],_=>j1
  | y1 :: ys1,i1=>Option.bind (Xr r1.1 r3.1 y1.Key 60) (fun r4 =>
  if !decide (r4.2 = 0) then
  some false
  else
  Hc (fun (x1 : List Ex) =>
  Option.bind (Ix x1) (fun r5 =>
  Option.bind (Wr ([(Mw.mk k_k y1.Key ([] : List ByteArray) 0 150)] : List Mw) r5 k_k 5) (fun r6 =>
  if !decide (r6.2 = 0) then
  some false
  else
  Hc (Iq r1 r3 j1 ys1 (i1 + 1)) (fun j5 =>
  Ip r6 j5 r4.1 0)))) (fun j2 =>
  Hz y1 j2 r4.1 0 ([] : List Ex)))
def Ow (p_l : List Int) : Option Bool :=
  Option.bind (Tf p_l 0) (fun r1 =>
  Option.bind (Ou p_l r1.2 4 16) (fun r2 =>
  Option.bind (Sj p_l r2.2 r2.1) (fun r3 =>
  Hc (Option.bind (Wb) (fun r7 =>
  some r7)) (fun j1 =>
  Iq r1 r3 j1 r1.1.Races 0))))
theorem twin_eqs : True:=by
  have h:=@Lq.eq_def; clear h; have h:=@Lq.eq_1; clear h; have h:=@Lq.eq_2; clear h
  have h:=@Kx.eq_def; clear h; have h:=@Kx.eq_1; clear h; have h:=@Kx.eq_2; clear h
  have h:=@Kd.eq_def; clear h; have h:=@Kd.eq_1; clear h; have h:=@Kd.eq_2; clear h
  have h:=@Fh.eq_def; clear h; have h:=@Fh.eq_1; clear h; have h:=@Fh.eq_2; clear h
  have h:=@Fy.eq_def; clear h; have h:=@Fy.eq_1; clear h; have h:=@Fy.eq_2; clear h
  have h:=@Gp.eq_def; clear h; have h:=@Gp.eq_1; clear h; have h:=@Gp.eq_2; clear h
  have h:=@Ht.eq_def; clear h; have h:=@Ht.eq_1; clear h; have h:=@Ht.eq_2; clear h
  have h:=@Gq.eq_def; clear h; have h:=@Gq.eq_1; clear h; have h:=@Gq.eq_2; clear h
  have h:=@Od.eq_def; clear h; have h:=@Od.eq_1; clear h; have h:=@Od.eq_2; clear h
  have h:=@Ml.eq_def; clear h; have h:=@Ml.eq_1; clear h; have h:=@Ml.eq_2; clear h
  have h:=@Fu.eq_def; clear h; have h:=@Fu.eq_1; clear h; have h:=@Fu.eq_2; clear h
  have h:=@Jf.eq_def; clear h; have h:=@Jf.eq_1; clear h; have h:=@Jf.eq_2; clear h
  have h:=@Jv.eq_def; clear h; have h:=@Jv.eq_1; clear h; have h:=@Jv.eq_2; clear h
  have h:=@Ky.eq_def; clear h; have h:=@Ky.eq_1; clear h; have h:=@Ky.eq_2; clear h
  have h:=@Gu.eq_def; clear h; have h:=@Gu.eq_1; clear h; have h:=@Gu.eq_2; clear h
  have h:=@Kz.eq_def; clear h; have h:=@Kz.eq_1; clear h; have h:=@Kz.eq_2; clear h
  have h:=@Ms.eq_def; clear h; have h:=@Ms.eq_1; clear h; have h:=@Ms.eq_2; clear h
  have h:=@Mt.eq_def; clear h; have h:=@Mt.eq_1; clear h; have h:=@Mt.eq_2; clear h
  have h:=@Jj.eq_def; clear h; have h:=@Jj.eq_1; clear h; have h:=@Jj.eq_2; clear h
  have h:=@Km.eq_def; clear h; have h:=@Km.eq_1; clear h; have h:=@Km.eq_2; clear h
  have h:=@Lv.eq_def; clear h; have h:=@Lv.eq_1; clear h; have h:=@Lv.eq_2; clear h
  have h:=@Nj.eq_def; clear h; have h:=@Nj.eq_1; clear h; have h:=@Nj.eq_2; clear h
  have h:=@Qj.eq_def; clear h; have h:=@Qj.eq_1; clear h; have h:=@Qj.eq_2; clear h
  have h:=@Hf.eq_def; clear h; have h:=@Hf.eq_1; clear h; have h:=@Hf.eq_2; clear h
  have h:=@Fj.eq_def; clear h; have h:=@Fj.eq_1; clear h; have h:=@Fj.eq_2; clear h
  have h:=@Gd.eq_def; clear h; have h:=@Gd.eq_1; clear h; have h:=@Gd.eq_2; clear h
  have h:=@Hh.eq_def; clear h; have h:=@Hh.eq_1; clear h; have h:=@Hh.eq_2; clear h
  have h:=@Mn.eq_def; clear h; have h:=@Mn.eq_1; clear h; have h:=@Mn.eq_2; clear h
  have h:=@Nq.eq_def; clear h; have h:=@Nq.eq_1; clear h; have h:=@Nq.eq_2; clear h
  have h:=@Po.eq_def; clear h; have h:=@Po.eq_1; clear h; have h:=@Po.eq_2; clear h
  have h:=@Mb.eq_def; clear h; have h:=@Mb.eq_1; clear h; have h:=@Mb.eq_2; clear h
  have h:=@Ke.eq_def; clear h; have h:=@Ke.eq_1; clear h; have h:=@Ke.eq_2; clear h
  have h:=@Fl.eq_def; clear h; have h:=@Fl.eq_1; clear h; have h:=@Fl.eq_2; clear h
  have h:=@Gf.eq_def; clear h; have h:=@Gf.eq_1; clear h; have h:=@Gf.eq_2; clear h
  have h:=@Gz.eq_def; clear h; have h:=@Gz.eq_1; clear h; have h:=@Gz.eq_2; clear h
  have h:=@Ih.eq_def; clear h; have h:=@Ih.eq_1; clear h; have h:=@Ih.eq_2; clear h
  have h:=@Ha.eq_def; clear h; have h:=@Ha.eq_1; clear h; have h:=@Ha.eq_2; clear h
  have h:=@Pp.eq_def; clear h; have h:=@Pp.eq_1; clear h; have h:=@Pp.eq_2; clear h
  have h:=@Ol.eq_def; clear h; have h:=@Ol.eq_1; clear h; have h:=@Ol.eq_2; clear h
  have h:=@Om.eq_def; clear h; have h:=@Om.eq_1; clear h; have h:=@Om.eq_2; clear h
  have h:=@Nk.eq_def; clear h; have h:=@Nk.eq_1; clear h; have h:=@Nk.eq_2; clear h
  have h:=@Fi.eq_def; clear h; have h:=@Fi.eq_1; clear h; have h:=@Fi.eq_2; clear h
  have h:=@Fz.eq_def; clear h; have h:=@Fz.eq_1; clear h; have h:=@Fz.eq_2; clear h
  have h:=@Gr.eq_def; clear h; have h:=@Gr.eq_1; clear h; have h:=@Gr.eq_2; clear h
  have h:=@Hu.eq_def; clear h; have h:=@Hu.eq_1; clear h; have h:=@Hu.eq_2; clear h
  have h:=@Gt.eq_def; clear h; have h:=@Gt.eq_1; clear h; have h:=@Gt.eq_2; clear h
  have h:=@Oe.eq_def; clear h; have h:=@Oe.eq_1; clear h; have h:=@Oe.eq_2; clear h
  have h:=@Mj.eq_def; clear h; have h:=@Mj.eq_1; clear h; have h:=@Mj.eq_2; clear h
  have h:=@Gj.eq_def; clear h; have h:=@Gj.eq_1; clear h; have h:=@Gj.eq_2; clear h
  have h:=@Mc.eq_def; clear h; have h:=@Mc.eq_1; clear h; have h:=@Mc.eq_2; clear h
  have h:=@Lh.eq_def; clear h; have h:=@Lh.eq_1; clear h; have h:=@Lh.eq_2; clear h
  have h:=@Md.eq_def; clear h; have h:=@Md.eq_1; clear h; have h:=@Md.eq_2; clear h
  have h:=@Kp.eq_def; clear h; have h:=@Kp.eq_1; clear h; have h:=@Kp.eq_2; clear h
  have h:=@Nd.eq_def; clear h; have h:=@Nd.eq_1; clear h; have h:=@Nd.eq_2; clear h
  have h:=@Li.eq_def; clear h; have h:=@Li.eq_1; clear h; have h:=@Li.eq_2; clear h
  have h:=@Kn.eq_def; clear h; have h:=@Kn.eq_1; clear h; have h:=@Kn.eq_2; clear h
  have h:=@Mu.eq_def; clear h; have h:=@Mu.eq_1; clear h; have h:=@Mu.eq_2; clear h
  have h:=@Ob.eq_def; clear h; have h:=@Ob.eq_1; clear h; have h:=@Ob.eq_2; clear h
  have h:=@Oc.eq_def; clear h; have h:=@Oc.eq_1; clear h; have h:=@Oc.eq_2; clear h
  have h:=@Mo.eq_def; clear h; have h:=@Mo.eq_1; clear h; have h:=@Mo.eq_2; clear h
  have h:=@Lj.eq_def; clear h; have h:=@Lj.eq_1; clear h; have h:=@Lj.eq_2; clear h
  have h:=@On.eq_def; clear h; have h:=@On.eq_1; clear h; have h:=@On.eq_2; clear h
  have h:=@Nl.eq_def; clear h; have h:=@Nl.eq_1; clear h; have h:=@Nl.eq_2; clear h
  have h:=@Mp.eq_def; clear h; have h:=@Mp.eq_1; clear h; have h:=@Mp.eq_2; clear h
  have h:=@Nr.eq_def; clear h; have h:=@Nr.eq_1; clear h; have h:=@Nr.eq_2; clear h
  have h:=@Mq.eq_def; clear h; have h:=@Mq.eq_1; clear h; have h:=@Mq.eq_2; clear h
  have h:=@Ev.eq_def; clear h; have h:=@Ev.eq_1; clear h; have h:=@Ev.eq_2; clear h
  have h:=@Fb.eq_def; clear h; have h:=@Fb.eq_1; clear h; have h:=@Fb.eq_2; clear h
  have h:=@Fw.eq_def; clear h; have h:=@Fw.eq_1; clear h; have h:=@Fw.eq_2; clear h
  have h:=@Mx.eq_def; clear h; have h:=@Mx.eq_1; clear h; have h:=@Mx.eq_2; clear h
  have h:=@My.eq_def; clear h; have h:=@My.eq_1; clear h; have h:=@My.eq_2; clear h
  have h:=@La.eq_def; clear h; have h:=@La.eq_1; clear h; have h:=@La.eq_2; clear h
  have h:=@Hm.eq_def; clear h; have h:=@Hm.eq_1; clear h; have h:=@Hm.eq_2; clear h
  have h:=@Mr.eq_def; clear h; have h:=@Mr.eq_1; clear h; have h:=@Mr.eq_2; clear h
  have h:=@Lz.eq_def; clear h; have h:=@Lz.eq_1; clear h; have h:=@Lz.eq_2; clear h
  have h:=@Ma.eq_def; clear h; have h:=@Ma.eq_1; clear h; have h:=@Ma.eq_2; clear h
  have h:=@Lc.eq_def; clear h; have h:=@Lc.eq_1; clear h; have h:=@Lc.eq_2; clear h
  have h:=@Ff.eq_def; clear h; have h:=@Ff.eq_1; clear h; have h:=@Ff.eq_2; clear h
  have h:=@Ph.eq_def; clear h; have h:=@Ph.eq_1; clear h; have h:=@Ph.eq_2; clear h
  have h:=@Pi.eq_def; clear h; have h:=@Pi.eq_1; clear h; have h:=@Pi.eq_2; clear h
  have h:=@Pj.eq_def; clear h; have h:=@Pj.eq_1; clear h; have h:=@Pj.eq_2; clear h
  have h:=@Mf.eq_def; clear h; have h:=@Mf.eq_1; clear h; have h:=@Mf.eq_2; clear h
  have h:=@Mz.eq_def; clear h; have h:=@Mz.eq_1; clear h; have h:=@Mz.eq_2; clear h
  have h:=@Na.eq_def; clear h; have h:=@Na.eq_1; clear h; have h:=@Na.eq_2; clear h
  have h:=@Ns.eq_def; clear h; have h:=@Ns.eq_1; clear h; have h:=@Ns.eq_2; clear h
  have h:=@Pk.eq_def; clear h; have h:=@Pk.eq_1; clear h; have h:=@Pk.eq_2; clear h
  have h:=@Rl.eq_def; clear h; have h:=@Rl.eq_1; clear h; have h:=@Rl.eq_2; clear h
  have h:=@Ro.eq_def; clear h; have h:=@Ro.eq_1; clear h; have h:=@Ro.eq_2; clear h
  have h:=@Hz.eq_def; clear h; have h:=@Hz.eq_1; clear h; have h:=@Hz.eq_2; clear h
  have h:=@Ip.eq_def; clear h; have h:=@Ip.eq_1; clear h; have h:=@Ip.eq_2; clear h
  have h:=@Iq.eq_def; clear h; have h:=@Iq.eq_1; clear h; have h:=@Iq.eq_2; clear h
  trivial
end
end Go.Proofs.YtjofndbcioknfaaGreatDoor
