/- The Go functions as plain Lean functions,by program. -/
import Derived.Test.YtfdmkmnjfhbliaaGreatDoorBase
namespace Go.Proofs.YtfdmkmnjfhbliaaGreatDoor
open Go
noncomputable section
structure VI where
  L : List Int
  at_ : Int
  deriving DecidableEq,Inhabited
structure Du where
  Key : ByteArray
  Metres : Int
  Stroke : Int
  Course : Int
  Legs : Int
  Sex : Int
  Young : Int
  Old : Int
  deriving DecidableEq,Inhabited
structure Jx where
  Points : List Int
  Relay : Int
  Most : Int
  deriving DecidableEq,Inhabited
structure Uk where
  Size : Int
  Many : Int
  Reserves : Int
  deriving DecidableEq,Inhabited
structure Jr where
  Races : List Du
  Table : Jx
  Final : Uk
  deriving DecidableEq,Inhabited
structure Di where
  Site : ByteArray
  No : Int
  At : Int
  Kind : Int
  Who : ByteArray
  Club : ByteArray
  Race : ByteArray
  Time : Int
  Fault : Int
  Of : ByteArray
  Other : Int
  deriving DecidableEq,Inhabited
structure Dj where
  Race : ByteArray
  Who : ByteArray
  Club : ByteArray
  Rank : Int
  Relay : Bool
  deriving DecidableEq,Inhabited
structure Lc where
  p_ : Jr
  deeds_ : List Di
  deriving DecidableEq,Inhabited
structure Ev where
  site_ : ByteArray
  no_ : Int
  deriving DecidableEq,Inhabited
structure Dk where
  Num : Int
  Den : Int
  deriving DecidableEq,Inhabited
structure Je where
  Rank : Int
  Who : ByteArray
  Club : ByteArray
  Time : Int
  Fault : Int
  Points : Dk
  deriving DecidableEq,Inhabited
structure Kj where
  Who : ByteArray
  Time : Int
  deriving DecidableEq,Inhabited
structure Iz where
  Who : ByteArray
  Fault : Int
  Reports : List ByteArray
  deriving DecidableEq,Inhabited
structure Ds where
  Who : ByteArray
  Rank : Int
  Time : Int
  Fault : Int
  deriving DecidableEq,Inhabited
structure Fo where
  race_ : ByteArray
  who_ : ByteArray
  deriving DecidableEq,Inhabited
structure Dm where
  Key : ByteArray
  Points : Dk
  deriving DecidableEq,Inhabited
structure Dp where
  x_ : Dj
  points_ : Dk
  deriving DecidableEq,Inhabited
structure Nj where
  Year : Int
  Month : Int
  Day : Int
  deriving DecidableEq,Inhabited
structure Om where
  Key : ByteArray
  Heats : Int
  Long : Int
  Gap : Int
  Break : Int
  deriving DecidableEq,Inhabited
structure Vj where
  From : Int
  To : Int
  deriving DecidableEq,Inhabited
structure Ln where
  Item : ByteArray
  Heat : Int
  Time : Vj
  deriving DecidableEq,Inhabited
structure Sr where
  Race : ByteArray
  Time : Int
  deriving DecidableEq,Inhabited
def An : ByteArray:=⟨#[]⟩
def Rq : ByteArray:=⟨#[114,97]⟩
def Uu : ByteArray:=⟨#[114,98]⟩
def Xl : ByteArray:=⟨#[114,99]⟩
def Ty : ByteArray:=⟨#[115,97]⟩
def HI : ByteArray:=⟨#[115,98]⟩
def Yh : ByteArray:=⟨#[97,110,110]⟩
def CV : ByteArray:=⟨#[98,101,97]⟩
def CW : ByteArray:=⟨#[99,105,100]⟩
def CX : ByteArray:=⟨#[100,97,110]⟩
def RG : ByteArray:=⟨#[114,122]⟩
def Uv : ByteArray:=⟨#[98,108,117,101]⟩
def ES : ByteArray:=⟨#[114,101,100]⟩
def k_A : ByteArray:=⟨#[65]⟩
def Lj : ByteArray:=⟨#[97,98,99,100,101,102,103,104,105,106,107,108,109,110,111,112,113,114,115,116,117,118,119,120,121,122]⟩
def Ik : ByteArray:=⟨#[97,98,99,100,101,102,103,104,105,106,107,108,109,110,111,112,113,114,115,116,117,118,119,120,121,122,48,49,50,51,52,53,54,55,56,57,45,95]⟩
def Qx : ByteArray:=⟨#[0,1,2,2,3,3,3,3,4,4,4,4,4,4,4,4,5,5,5,5,5,5,5,5,5,5,5,5,5,5,5,5,6,6,6,6,6,6,6,6,6,6,6,6,6,6,6,6,6,6,6,6,6,6,6,6,6,6,6,6,6,6,6,6,7,7,7,7,7,7,7,7,7,7,7,7,7,7,7,7,7,7,7,7,7,7,7,7,7,7,7,7,7,7,7,7,7,7,7,7,7,7,7,7,7,7,7,7,7,7,7,7,7,7,7,7,7,7,7,7,7,7,7,7,7,7,7,7,8,8,8,8,8,8,8,8,8,8,8,8,8,8,8,8,8,8,8,8,8,8,8,8,8,8,8,8,8,8,8,8,8,8,8,8,8,8,8,8,8,8,8,8,8,8,8,8,8,8,8,8,8,8,8,8,8,8,8,8,8,8,8,8,8,8,8,8,8,8,8,8,8,8,8,8,8,8,8,8,8,8,8,8,8,8,8,8,8,8,8,8,8,8,8,8,8,8,8,8,8,8,8,8,8,8,8,8,8,8,8,8,8,8,8,8,8,8,8,8,8,8,8,8,8,8,8,8]⟩
def On : ByteArray:=⟨#[32]⟩
def k_a : ByteArray:=⟨#[97]⟩
def k_r : ByteArray:=⟨#[114]⟩
def Rr (p_x : Int) (p_n : Int) : Option Int :=
  if decide (p_n < 1) then
  some 0
  else
  Chk (!decide (p_n = 0)) (
  Gx (fun (x1 : Int) =>
  some x1) (fun j1 =>
  if decide ((Int.tmod p_x p_n) < 0) then
  j1 (W ((Int.tmod p_x p_n) + p_n))
  else
  j1 (Int.tmod p_x p_n)))
def Rb (p_s_L : List Int) (p_s_at : Int) (p_n : Int) : Option (Int × Int) :=
  if decide ((p_s_L.length : Int) = 0) then
  Option.bind (Rr (W ((W (p_s_at + 1)) * 7919)) p_n) (fun r1 =>
  some (r1,W (p_s_at + 1)))
  else
  Chk (!decide ((p_s_L.length : Int) = 0)) (
  Chk (!decide ((p_s_L.length : Int) = 0)) (
  Chk (inB (Int.tmod (W ((W (p_s_at + 1)) - 1)) (p_s_L.length : Int)) p_s_L.length) (
  Option.bind (Rr (nth p_s_L (Int.tmod (W ((W (p_s_at + 1)) - 1)) (p_s_L.length : Int))) 1073741824) (fun r2 =>
  Option.bind (Rr (W (r2 + (W ((W (Int.tdiv (W ((W (p_s_at + 1)) - 1)) (p_s_L.length : Int))) * (W (7919 + (Int.tmod (W ((W (p_s_at + 1)) - 1)) (p_s_L.length : Int)))))))) p_n) (fun r3 =>
  some (r3,W (p_s_at + 1)))))))
def Tm (p_s_L : List Int) (p_s_at : Int) (p_n : Int) : Option (Bool × Int) :=
  Option.bind (Rb p_s_L p_s_at p_n) (fun r1 =>
  some (decide (r1.1 = 0),r1.2))
def Kk (p_s_L : List Int) (p_s_at : Int) (p_l : List Int) : Option (Int × Int) :=
  Option.bind (Rb p_s_L p_s_at (p_l.length : Int)) (fun r1 =>
  Chk (inB r1.1 p_l.length) (
  some ((nth p_l r1.1),r1.2)))
def Tz (p_s_L : List Int) (p_s_at : Int) (p_key : ByteArray) : Option (Du × Int) :=
  Option.bind (Kk p_s_L p_s_at [50,100,200]) (fun r1 =>
  Option.bind (Kk p_s_L r1.2 [1,2,3,4]) (fun r2 =>
  Option.bind (Kk p_s_L r2.2 [25,50]) (fun r3 =>
  Option.bind (Kk p_s_L r3.2 [1,1,1,4]) (fun r4 =>
  Option.bind (Kk p_s_L r4.2 [0,1,2]) (fun r5 =>
  Option.bind (Kk p_s_L r5.2 [0,0,5,10]) (fun r6 =>
  Option.bind (Kk p_s_L r6.2 [0,5,90]) (fun r7 =>
  some ((Du.mk p_key r1.1 r2.1 r3.1 r4.1 r5.1 r6.1 (W (r6.1 + r7.1))),r7.2))))))))
def Lf (p_s_L : List Int) (j1 : (List Du) → Int → Option ((List Du) × Int)) : List ByteArray → Nat → (List Du) → Int → Option ((List Du) × Int)
  | [],_,x1,x2=>j1 x1 x2
  | y1 :: ys1,i1,x1,x2=>Gx (fun (x3 : List Du) (x4 : Int) =>
  Lf p_s_L j1 ys1 (i1 + 1) x3 x4) (fun j2 =>
  Option.bind (Tm p_s_L x2 6) (fun r1 =>
  Gx (fun (x5 : List Du) (x6 : Int) =>
  j2 x5 x6) (fun j3 =>
  if !r1.1 then
  Option.bind (Tz p_s_L r1.2 y1) (fun r2 =>
  Chk (St x1.length) (
  j3 (x1 ++ [r2.1]) r2.2))
  else
  j3 x1 r1.2)))
def Vn (p_s_L : List Int) (p_s_at : Int) : Option ((List Du) × Int) :=
  Gx (fun (x1 : List Du) (x2 : Int) =>
  some (x1,x2)) (fun j1 =>
  Lf p_s_L j1 ([Rq,Uu,Xl] : List ByteArray) 0 ([] : List Du) p_s_at)
def Ok (p_s_L : List Int) (p_s_at : Int) (p_low : Int) (p_high : Int) : Option (Int × Int) :=
  if decide (p_high < p_low) then
  some (p_low,p_s_at)
  else
  Option.bind (Rb p_s_L p_s_at (W ((W (p_high - p_low)) + 1))) (fun r1 =>
  some (W (p_low + r1.1),r1.2))
def Kt (r4 : Int × Int) (p_s_L : List Int) (j1 : (List Int) → Int → Option (Jx × Int)) : Nat → (List Int) → Int → Int → Int → Option (Jx × Int)
  | 0,_,_,_,_=>none
  | m1 + 1,x1,x2,x3,x4=>if decide (x4 < r4.1) then
  Chk (St x1.length) (
  Option.bind (Kk p_s_L x2 [0,1,2,3]) (fun r5 =>
  Kt r4 p_s_L j1 m1 (x1 ++ [x3]) r5.2 (HA 0 (W (x3 - r5.1))) (W (x4 + 1))))
  else
  j1 x1 x2
def Se (p_s_L : List Int) (p_s_at : Int) : Option (Jx × Int) :=
  Option.bind (Kk p_s_L p_s_at [1,2]) (fun r1 =>
  Option.bind (Kk p_s_L r1.2 [0,0,1,2]) (fun r2 =>
  Option.bind (Kk p_s_L r2.2 [10,9,7,5]) (fun r3 =>
  Option.bind (Ok p_s_L r3.2 0 5) (fun r4 =>
  Gx (fun (x1 : List Int) (x2 : Int) =>
  some ((Jx.mk x1 r1.1 r2.1),x2)) (fun j1 =>
  Kt r4 p_s_L j1 ((r4.1 - 0).toNat + 2) ([] : List Int) r4.2 r3.1 0)))))
def Js (j1 : (List Du) → Option (List Du)) : Nat → (List Du) → Int → Int → Option (List Du)
  | 0,_,_,_=>none
  | m1 + 1,x1,x2,x3=>if decide (x2 < x3) then
  Chk (inB x3 x1.length) (
  Chk (inB x2 x1.length) (
  Chk (inB x2 x1.length) (
  Chk (inB x3 (x1.set x2.toNat (nth x1 x3)).length) (
  Js j1 m1 ((x1.set x2.toNat (nth x1 x3)).set x3.toNat (nth x1 x2)) (W (x2 + 1)) (W (x3 - 1))))))
  else
  j1 x1
def Qt (p_s : List Du) : Option (List Du) :=
  Gx (fun (x1 : List Du) =>
  some x1) (fun j1 =>
  Js j1 (((W ((p_s.length : Int) - 1)) - 0).toNat + 2) p_s 0 (W ((p_s.length : Int) - 1)))
def Td (p_s_L : List Int) (p_s_at : Int) : Option (Jr × Int) :=
  Option.bind (Vn p_s_L p_s_at) (fun r1 =>
  Option.bind (Se p_s_L r1.2) (fun r2 =>
  Option.bind (Ok p_s_L r2.2 1 3) (fun r3 =>
  Option.bind (Ok p_s_L r3.2 1 2) (fun r4 =>
  Option.bind (Ok p_s_L r4.2 0 2) (fun r5 =>
  Option.bind (Qt r1.1) (fun r6 =>
  some ((Jr.mk r6 r2.1 (Uk.mk r3.1 r4.1 r5.1)),r5.2)))))))
def Ou (p_s_L : List Int) (p_s_at : Int) (p_l : List ByteArray) : Option (ByteArray × Int) :=
  Option.bind (Rb p_s_L p_s_at (p_l.length : Int)) (fun r1 =>
  Chk (inB r1.1 p_l.length) (
  some ((nth p_l r1.1),r1.2)))
def Tp (p_s_L : List Int) (p_s_at : Int) (p_low : Int) (p_high : Int) : Option (Int × Int) :=
  Option.bind (Tm p_s_L p_s_at 12) (fun r1 =>
  if r1.1 then
  Option.bind (Kk p_s_L r1.2 [W (p_low - 1),W (p_high + 1),p_low,p_high,(-1099511627776),1099511627776]) (fun r2 =>
  some (r2.1,r2.2))
  else
  Option.bind (Ok p_s_L r1.2 p_low p_high) (fun r3 =>
  some (r3.1,r3.2)))
def Wc (p_n : Int) : Int :=
  if decide (p_n < 0) then
  (-1)
  else
  if decide (0 < p_n) then
  1
  else
  0
def Hl (s t : ByteArray) : Int:=Lib.compareBytes s.data.toList t.data.toList
def Kh (p_a : Di) (p_b : Di) : Int :=
  if !decide (p_a.At = p_b.At) then
  (Wc (W (p_a.At - p_b.At)))
  else
  if !decide (p_a.Site = p_b.Site) then
  (Hl p_a.Site p_b.Site)
  else
  (Wc (W (p_a.No - p_b.No)))
def Ek (p_a : Int) (j2 : (List Di) → Option (List Di)) : Nat → (List Di) → Int → Option (List Di)
  | 0,_,_=>none
  | m2 + 1,x3,x4=>Gx (fun (x5 : Bool) =>
  if x5 then
  Chk (inB (W (x4 - 1)) x3.length) (
  Chk (inB x4 x3.length) (
  Chk (inB x4 x3.length) (
  Chk (inB (W (x4 - 1)) (x3.set x4.toNat (nth x3 (W (x4 - 1)))).length) (
  Ek p_a j2 m2 ((x3.set x4.toNat (nth x3 (W (x4 - 1)))).set ((W (x4 - 1)).toNat) (nth x3 x4)) (W (x4 - 1))))))
  else
  j2 x3) (fun j3 =>
  if decide (p_a < x4) then
  Chk (inB x4 x3.length) (
  Chk (inB (W (x4 - 1)) x3.length) (
  j3 (decide ((Kh (nth x3 x4) (nth x3 (W (x4 - 1)))) < 0))))
  else
  j3 false)
def Ff (p_b : Int) (p_a : Int) (j1 : (List Di) → Option (List Di)) : Nat → (List Di) → Int → Option (List Di)
  | 0,_,_=>none
  | m1 + 1,x1,x2=>if decide (x2 < p_b) then
  Gx (fun (x3 : List Di) =>
  Ff p_b p_a j1 m1 x3 (W (x2 + 1))) (fun j2 =>
  Ek p_a j2 ((x2 - p_a).toNat + 2) x1 x2)
  else
  j1 x1
def Hi (p_data : List Di) (p_a : Int) (p_b : Int) : Option (List Di) :=
  Gx (fun (x1 : List Di) =>
  some x1) (fun j1 =>
  Ff p_b p_a j1 ((p_b - (W (p_a + 1))).toNat + 2) p_data (W (p_a + 1)))
def Fx (p_n : Int) (j1 : (List Di) → Int → Option (List Di)) : Nat → (List Di) → Int → Int → Option (List Di)
  | 0,_,_,_=>none
  | m1 + 1,x1,x2,x3=>if decide (x3 ≤ p_n) then
  Option.bind (Hi x1 x2 x3) (fun r1 =>
  Fx p_n j1 m1 r1 x3 (W (x3 + 20)))
  else
  j1 x1 x2
def He (p_n : Int) (j3 : Int → Option (List Di)) : Nat → Int → Int → Option (List Di)
  | 0,_,_=>none
  | _ + 1,x5,x6=>if decide (x6 ≤ p_n) then
  none
  else
  j3 x5
def Fy (p_n : Int) (j2 : Option (List Di)) : Nat → Int → Option (List Di)
  | 0,_=>none
  | m2 + 1,x4=>if decide (x4 < p_n) then
  Gx (fun (x5 : Int) =>
  if decide ((W (x5 + x4)) < p_n) then
  none
  else
  Fy p_n j2 m2 (W (x4 * 2))) (fun j3 =>
  He p_n j3 ((p_n - (W (2 * x4))).toNat + 2) 0 (W (2 * x4)))
  else
  j2
def Kc (p_data : List Di) (p_n : Int) : Option (List Di) :=
  Gx (fun (x1 : List Di) (x2 : Int) =>
  Option.bind (Hi x1 x2 p_n) (fun r2 =>
  Gx (some r2) (fun j2 =>
  Fy p_n j2 ((p_n - 20).toNat + 2) 20))) (fun j1 =>
  Fx p_n j1 ((p_n - 20).toNat + 2) p_data 0 20)
def Hz (p_x : List Di) : Option (List Di) :=
  Option.bind (Kc p_x (p_x.length : Int)) (fun r1 =>
  some r1)
def Ns (p_many : Int) (p_s_L : List Int) (j1 : (List (ByteArray × Int)) → (List Di) → Int → Option ((List Di) × Int)) : Nat → (List (ByteArray × Int)) → (List Di) → Int → Int → Int → Option ((List Di) × Int)
  | 0,_,_,_,_,_=>none
  | m1 + 1,x1,x2,x3,x4,x5=>if decide (x5 < p_many) then
  Option.bind (Kk p_s_L x3 [0,1,5]) (fun r1 =>
  Option.bind (Ou p_s_L r1.2 [Ty,Ty,HI]) (fun r2 =>
  Option.bind (Kk p_s_L r2.2 [1,1,1,3,3,3,2,4]) (fun r3 =>
  Gx (fun (x6 : ByteArray) (x7 : ByteArray) (x8 : Int) =>
  Gx (fun (x9 : ByteArray) (x10 : Int) (x11 : Int) (x12 : ByteArray) (x13 : Int) (x14 : Int) =>
  Option.bind (Tm p_s_L x14 100) (fun r12 =>
  Gx (fun (x29 : ByteArray) (x30 : Int) (x31 : Int) (x32 : ByteArray) (x33 : ByteArray) (x34 : ByteArray) (x35 : Int) (x36 : Int) (x37 : Int) (x38 : Int) =>
  Chk (St x2.length) (
  Ns p_many p_s_L j1 m1 (Gk x1 r2.1 (W ((Ec x1 r2.1 0) + 1))) (x2 ++ [(Di.mk x29 x30 (W (x4 + r1.1)) x31 x32 x33 x34 x35 x36 x12 x37)]) x38 (W (x4 + r1.1)) (W (x5 + 1)))) (fun j7 =>
  if r12.1 then
  Option.bind (Rb p_s_L r12.2 4) (fun r13 =>
  Gx (fun (x39 : ByteArray) (x40 : Int) (x41 : Int) (x42 : ByteArray) (x43 : ByteArray) (x44 : ByteArray) (x45 : Int) (x46 : Int) (x47 : Int) (x48 : Int) =>
  j7 x39 x40 x41 x42 x43 x44 x45 x46 x47 x48) (fun j8 =>
  Gx (fun (x49 : ByteArray) (x50 : Int) (x51 : Int) (x52 : ByteArray) (x53 : ByteArray) (x54 : ByteArray) (x55 : Int) (x56 : Int) (x57 : Int) (x58 : Int) =>
  j8 x49 x50 x51 x52 x53 x54 x55 x56 x57 x58) (fun j9 =>
  if decide (r13.1 = 0) then
  Option.bind (Ou p_s_L r13.2 [An,Ty]) (fun r14 =>
  Option.bind (Tp p_s_L r14.2 1 9) (fun r15 =>
  j9 r14.1 r15.1 r3.1 x6 x9 x7 x10 x11 x13 r15.2))
  else
  Gx (fun (x59 : Int) (x60 : ByteArray) (x61 : ByteArray) (x62 : ByteArray) (x63 : Int) (x64 : Int) (x65 : Int) (x66 : Int) =>
  j9 r2.1 (Ec (Gk x1 r2.1 (W ((Ec x1 r2.1 0) + 1))) r2.1 0) x59 x60 x61 x62 x63 x64 x65 x66) (fun j10 =>
  if decide (r13.1 = 1) then
  Option.bind (Tp p_s_L r13.2 1 4) (fun r16 =>
  j10 r16.1 x6 x9 x7 x10 x11 x13 r16.2)
  else
  Gx (fun (x67 : ByteArray) (x68 : ByteArray) (x69 : ByteArray) (x70 : Int) (x71 : Int) (x72 : Int) (x73 : Int) =>
  j10 r3.1 x67 x68 x69 x70 x71 x72 x73) (fun j11 =>
  if decide (r13.1 = 2) then
  Option.bind (Ou p_s_L r13.2 [An,Yh]) (fun r17 =>
  Option.bind (Ou p_s_L r17.2 [k_A,Uv]) (fun r18 =>
  Option.bind (Ou p_s_L r18.2 [An,Rq]) (fun r19 =>
  j11 r17.1 r18.1 r19.1 x10 x11 x13 r19.2)))
  else
  Option.bind (Tp p_s_L r13.2 0 360000) (fun r20 =>
  Option.bind (Tp p_s_L r20.2 0 8) (fun r21 =>
  Option.bind (Tp p_s_L r21.2 0 5) (fun r22 =>
  j11 x6 x9 x7 r20.1 r21.1 r22.1 r22.2))))))))
  else
  j7 r2.1 (Ec (Gk x1 r2.1 (W ((Ec x1 r2.1 0) + 1))) r2.1 0) r3.1 x6 x9 x7 x10 x11 x13 r12.2))) (fun j3 =>
  Gx (fun (x15 : ByteArray) (x16 : Int) (x17 : Int) (x18 : ByteArray) (x19 : Int) (x20 : Int) =>
  j3 x15 x16 x17 x18 x19 x20) (fun j4 =>
  if decide (r3.1 = 1) then
  Option.bind (Ou p_s_L x8 [Uv,ES,An]) (fun r6 =>
  Option.bind (Kk p_s_L r6.2 [0,5900,6000,7000]) (fun r7 =>
  j4 r6.1 r7.1 0 An 0 r7.2))
  else
  Gx (fun (x21 : Int) (x22 : Int) (x23 : ByteArray) (x24 : Int) (x25 : Int) =>
  j4 An x21 x22 x23 x24 x25) (fun j5 =>
  if decide (r3.1 = 3) then
  Option.bind (Kk p_s_L x8 [0,5900,5900,6000,6100]) (fun r8 =>
  Option.bind (Kk p_s_L r8.2 [0,0,0,0,3]) (fun r9 =>
  j5 r8.1 r9.1 An 0 r9.2))
  else
  Gx (fun (x26 : ByteArray) (x27 : Int) (x28 : Int) =>
  j5 0 0 x26 x27 x28) (fun j6 =>
  if decide (r3.1 = 4) then
  Option.bind (Ou p_s_L x8 [Ty,Ty,HI]) (fun r10 =>
  Option.bind (Ok p_s_L r10.2 1 (HA 1 (Ec (Gk x1 r2.1 (W ((Ec x1 r2.1 0) + 1))) Ty 0))) (fun r11 =>
  j6 r10.1 r11.1 r11.2))
  else
  j6 An 0 x8))))) (fun j2 =>
  if !decide (r3.1 = 4) then
  Option.bind (Ou p_s_L r3.2 [Yh,CV,CW,CX]) (fun r4 =>
  Option.bind (Ou p_s_L r4.2 [Rq,Rq,Uu,RG]) (fun r5 =>
  j2 r4.1 r5.1 r5.2))
  else
  j2 An An r3.2))))
  else
  j1 x1 x2 x3
def Wx (p_s_L : List Int) (p_s_at : Int) (p_many : Int) : Option ((List Di) × Int) :=
  Gx (fun (x1 : List (ByteArray × Int)) (x2 : List Di) (x3 : Int) =>
  Option.bind (Hz x2) (fun r23 =>
  some (r23,x3))) (fun j1 =>
  Ns p_many p_s_L j1 ((p_many - 0).toNat + 2) ([] : List (ByteArray × Int)) ([] : List Di) p_s_at 0 0)
def Le (p_n : Int) (p_low : Int) (p_high : Int) : Bool :=
  ((decide (p_low ≤ p_n)) && (decide (p_n ≤ p_high)))
def Un (s : ByteArray) (c : Int) : Int:=Lib.indexByte s.data.toList c.toNat.toUInt8
def Ma (p_s : ByteArray) (p_some : ByteArray) (j1 : Option Bool) : Nat → Int → Option Bool
  | 0,_=>none
  | m1 + 1,x1=>if decide (x1 < (p_s.size : Int)) then
  Chk (inB x1 p_s.size) (
  if decide ((Un p_some (Zu p_s x1)) < 0) then
  some false
  else
  Ma p_s p_some j1 m1 (W (x1 + 1)))
  else
  j1
def Ug (p_s : ByteArray) (p_some : ByteArray) : Option Bool :=
  Gx (some true) (fun j1 =>
  Ma p_s p_some j1 (((p_s.size : Int) - 0).toNat + 2) 0)
def Px (p_s : ByteArray) : Option Bool :=
  Gx (fun (c1 : Bool) =>
  Gx (fun (c2 : Bool) =>
  some c2) (fun j2 =>
  if c1 then Option.bind (Ug p_s Ik) (fun r2 =>
  j2 (c1 && r2)) else j2 (c1 && true))) (fun j1 =>
  if (Le (p_s.size : Int) 1 40) then Chk (EG 0 1 p_s.size) (
  Option.bind (Ug (ON p_s 0 1) Lj) (fun r1 =>
  j1 ((Le (p_s.size : Int) 1 40) && r1))) else j1 ((Le (p_s.size : Int) 1 40) && true))
def Qp (p_at : Int) : Bool :=
  (Le p_at 0 345686399999)
def Rs (p_d : Di) : Option Int :=
  Option.bind (Px p_d.Site) (fun r1 =>
  if !r1 then
  some 5
  else
  if ((!(Le p_d.No 1 1000000)) || (!(Qp p_d.At))) then
  some 1
  else
  if !(Le p_d.Kind 1 4) then
  some 4
  else
  Gx (fun (x1 : ByteArray) (x2 : ByteArray) (x3 : ByteArray) (x4 : Int) =>
  Gx (fun (x5 : ByteArray) =>
  Gx (fun (x6 : Int) =>
  Gx (fun (x7 : Int) =>
  if !decide (p_d = (Di.mk p_d.Site p_d.No p_d.At p_d.Kind x1 x5 x2 x6 x7 x3 x4)) then
  some 3
  else
  some 0) (fun j7 =>
  if decide (p_d.Kind = 3) then
  if !(Le p_d.Fault 0 8) then
  some 1
  else
  j7 p_d.Fault
  else
  j7 0)) (fun j6 =>
  if ((decide (p_d.Kind = 1)) || (decide (p_d.Kind = 3))) then
  if !(Le p_d.Time 0 360000) then
  some 1
  else
  j6 p_d.Time
  else
  j6 0)) (fun j5 =>
  if decide (p_d.Kind = 1) then
  j5 p_d.Club
  else
  j5 An)) (fun j1 =>
  if decide (p_d.Kind = 4) then
  Option.bind (Px p_d.Of) (fun r2 =>
  if !r2 then
  some 5
  else
  if !(Le p_d.Other 1 1000000) then
  some 1
  else
  j1 An An p_d.Of p_d.Other)
  else
  Option.bind (Px p_d.Who) (fun r3 =>
  Gx (fun (c1 : Bool) =>
  Gx (fun (c2 : Bool) =>
  if c2 then
  some 5
  else
  j1 p_d.Who p_d.Race An 0) (fun j3 =>
  if c1 then j3 (c1 || true) else Gx (fun (c3 : Bool) =>
  j3 (c1 || c3)) (fun j4 =>
  if ((decide (p_d.Kind = 1)) && (!decide (p_d.Club = An))) then Option.bind (Px p_d.Club) (fun r5 =>
  j4 (((decide (p_d.Kind = 1)) && (!decide (p_d.Club = An))) && (!r5))) else j4 (((decide (p_d.Kind = 1)) && (!decide (p_d.Club = An))) && true)))) (fun j2 =>
  if (!r3) then j2 ((!r3) || true) else Option.bind (Px p_d.Race) (fun r4 =>
  j2 ((!r3) || (!r4)))))))
def Wj (p_a : Di) (p_b : Di) : Bool :=
  ((decide (p_a.Site = p_b.Site)) && (decide (p_a.No = p_b.No)))
def Pi (p_o : Di) (p_a1 : Di) : Bool :=
  (Wj p_o p_a1)
def Ez (p_f_0 : Di) (j1 : Int) : List Di → Nat → Int
  | [],_=>j1
  | y1 :: ys1,i1=>if (Pi y1 p_f_0) then
  (i1 : Int)
  else
  Ez p_f_0 j1 ys1 (i1 + 1)
def Mb (p_s : List Di) (p_f_0 : Di) : Int :=
  Gx ((-1)) (fun j1 =>
  Ez p_f_0 j1 p_s 0)
def Jq (p_s : List Di) (p_f_0 : Di) : Bool :=
  decide (0 ≤ (Mb p_s p_f_0))
def Il (p_l : List Di) (j1 : Option Int) : List Di → Nat → Option Int
  | [],_=>j1
  | y1 :: ys1,i1=>Option.bind (Rs y1) (fun r1 =>
  if !decide (r1 = 0) then
  some r1
  else
  Gx (fun (x1 : Bool) =>
  if x1 then
  some 7
  else
  Il p_l j1 ys1 (i1 + 1)) (fun j2 =>
  if decide (0 < (i1 : Int)) then
  Chk (inB (W ((i1 : Int) - 1)) p_l.length) (
  j2 (decide (0 ≤ (Kh (nth p_l (W ((i1 : Int) - 1))) y1))))
  else
  j2 false))
def Jg (p_l : List Di) (j3 : Option Int) : List Di → Nat → Option Int
  | [],_=>j3
  | y2 :: ys2,i2=>Chk (EG 0 (i2 : Int) p_l.length) (
  if (Jq (cut p_l 0 (i2 : Int)) y2) then
  some 6
  else
  Jg p_l j3 ys2 (i2 + 1))
def Qu (p_l : List Di) : Option Int :=
  if decide (2000 < (p_l.length : Int)) then
  some 2
  else
  Gx (Gx (some 0) (fun j3 =>
  Jg p_l j3 p_l 0)) (fun j1 =>
  Il p_l j1 p_l 0)
def Ku (p_s_L : List Int) (p_many : Int) (j1 : Int → Option ((List Di) × Int)) : Nat → Int → Int → Option ((List Di) × Int)
  | 0,_,_=>none
  | m1 + 1,x1,x2=>if decide (x2 < 5) then
  Option.bind (Wx p_s_L x1 p_many) (fun r1 =>
  Option.bind (Qu r1.1) (fun r2 =>
  if decide (r2 = 0) then
  some (r1.1,r1.2)
  else
  Ku p_s_L p_many j1 m1 r1.2 (W (x2 + 1))))
  else
  j1 x1
def Sf (p_s_L : List Int) (p_s_at : Int) (p_many : Int) : Option ((List Di) × Int) :=
  Gx (fun (x1 : Int) =>
  some (([] : List Di),x1)) (fun j1 =>
  Ku p_s_L p_many j1 7 p_s_at 0)
def Uo (p_s : List Du) : Option (List Du) :=
  Chk (decide ((([] : List Du) : List Du).length + p_s.length < 1073741824)) (
  some ((([] : List Du) : List Du) ++ p_s))
def FB (p_x : Int) : Option Int :=
  Gx (fun (x1 : Int) (x2 : Int) =>
  Gx (fun (x3 : Int) (x4 : Int) =>
  Chk (inB (IntKind.wrap .u8 x3) Qx.size) (
  some (W (x4 + (W (Zu Qx (IntKind.wrap .u8 x3))))))) (fun j2 =>
  if decide (256 ≤ x1) then
  j2 (Hc .u32 x1 8) (W (x2 + 8))
  else
  j2 x1 x2)) (fun j1 =>
  if decide (65536 ≤ p_x) then
  j1 (Hc .u32 p_x 16) 16
  else
  j1 p_x 0)
def BN (p_x : Int) : Option Int :=
  Gx (fun (x1 : Int) (x2 : Int) =>
  Gx (fun (x3 : Int) (x4 : Int) =>
  Gx (fun (x5 : Int) (x6 : Int) =>
  Chk (inB (IntKind.wrap .u8 x5) Qx.size) (
  some (W (x6 + (W (Zu Qx (IntKind.wrap .u8 x5))))))) (fun j3 =>
  if decide (256 ≤ x3) then
  j3 (Hc .u64 x3 8) (W (x4 + 8))
  else
  j3 x3 x4)) (fun j2 =>
  if decide (65536 ≤ x1) then
  j2 (Hc .u64 x1 16) (W (x2 + 16))
  else
  j2 x1 x2)) (fun j1 =>
  if decide (4294967296 ≤ p_x) then
  j1 (Hc .u64 p_x 32) 32
  else
  j1 p_x 0)
def Zg (p_x : Int) : Option Int :=
  if false then
  Option.bind (FB (IntKind.wrap .u32 p_x)) (fun r1 =>
  some r1)
  else
  Option.bind (BN p_x) (fun r2 =>
  some r2)
def Im (p_a : Du) (p_b : Du) : Int :=
  if EQ p_a.Key p_b.Key then
  (-1)
  else
  1
def Ee (p_a : Int) (j2 : (List Du) → Option (List Du)) : Nat → (List Du) → Int → Option (List Du)
  | 0,_,_=>none
  | m2 + 1,x3,x4=>Gx (fun (x5 : Bool) =>
  if x5 then
  Chk (inB (W (x4 - 1)) x3.length) (
  Chk (inB x4 x3.length) (
  Chk (inB x4 x3.length) (
  Chk (inB (W (x4 - 1)) (x3.set x4.toNat (nth x3 (W (x4 - 1)))).length) (
  Ee p_a j2 m2 ((x3.set x4.toNat (nth x3 (W (x4 - 1)))).set ((W (x4 - 1)).toNat) (nth x3 x4)) (W (x4 - 1))))))
  else
  j2 x3) (fun j3 =>
  if decide (p_a < x4) then
  Chk (inB x4 x3.length) (
  Chk (inB (W (x4 - 1)) x3.length) (
  j3 (decide ((Im (nth x3 x4) (nth x3 (W (x4 - 1)))) < 0))))
  else
  j3 false)
def Ej (p_b : Int) (p_a : Int) (j1 : (List Du) → Option (List Du)) : Nat → (List Du) → Int → Option (List Du)
  | 0,_,_=>none
  | m1 + 1,x1,x2=>if decide (x2 < p_b) then
  Gx (fun (x3 : List Du) =>
  Ej p_b p_a j1 m1 x3 (W (x2 + 1))) (fun j2 =>
  Ee p_a j2 ((x2 - p_a).toNat + 2) x1 x2)
  else
  j1 x1
def Hd (p_data : List Du) (p_a : Int) (p_b : Int) : Option (List Du) :=
  Gx (fun (x1 : List Du) =>
  some x1) (fun j1 =>
  Ej p_b p_a j1 ((p_b - (W (p_a + 1))).toNat + 2) p_data (W (p_a + 1)))
def Fd (p_data : List Du) : Nat → Int → Int → Int → Bool → Option (List Du)
  | 0,_,_,_,_=>none
  | _ + 1,x1,x2,x3,x4=>if decide ((W (x2 - x1)) ≤ 12) then
  Option.bind (Hd p_data x1 x2) (fun r1 =>
  some r1)
  else
  if decide (x3 = 0) then
  none
  else
  if !x4 then
  none
  else
  none
def It (p_data : List Du) (p_a : Int) (p_b : Int) (p_limit : Int) : Option (List Du) :=
  Fd p_data 4611686018427387904 p_a p_b p_limit true
def Ie (p_x : List Du) : Option (List Du) :=
  Option.bind (Zg (IntKind.wrap .u64 (p_x.length : Int))) (fun r1 =>
  Option.bind (It p_x 0 (p_x.length : Int) r1) (fun r2 =>
  some r2))
def Wy (s c : ByteArray) : Option ByteArray :=
  Chk (decide (s.size ≤ 9223372036854775807)) (Chk (decide (c.size < 4294967281)) (Chk (c.data.toList.all fun b=>decide (b.toNat < 128)) (some ⟨(Lib.trimS s.data.toList c.data.toList).toArray⟩)))
def Hk (p_s : ByteArray) : Option Bool :=
  Gx (fun (c1 : Bool) =>
  Gx (fun (c2 : Bool) =>
  Gx (fun (c3 : Bool) =>
  some c3) (fun j3 =>
  if c2 then Option.bind (Wy p_s Ik) (fun r1 =>
  j3 (c2 && (decide (r1 = An)))) else j3 (c2 && true))) (fun j2 =>
  if c1 then Chk (inB 0 p_s.size) (
  j2 (c1 && (decide ((Zu p_s 0) ≤ 122)))) else j2 (c1 && true))) (fun j1 =>
  if ((decide (1 ≤ (p_s.size : Int))) && (decide ((p_s.size : Int) ≤ 40))) then Chk (inB 0 p_s.size) (
  j1 (((decide (1 ≤ (p_s.size : Int))) && (decide ((p_s.size : Int) ≤ 40))) && (decide (97 ≤ (Zu p_s 0))))) else j1 (((decide (1 ≤ (p_s.size : Int))) && (decide ((p_s.size : Int) ≤ 40))) && true))
def Dt (p_n : Int) (p_low : Int) (p_high : Int) : Bool :=
  ((decide (p_low ≤ p_n)) && (decide (p_n ≤ p_high)))
def Ov (p_r : Du) : Option Int :=
  Option.bind (Hk p_r.Key) (fun r1 =>
  if !r1 then
  some 5
  else
  if ((!(Dt p_r.Stroke 1 5)) || (!(Dt p_r.Sex 0 2))) then
  some 4
  else
  if (((((((!decide (p_r.Course = 25)) && (!decide (p_r.Course = 50))) || (!(Dt p_r.Legs 1 4))) || (!(Dt p_r.Metres 25 1500))) || (decide (p_r.Young < 0))) || (decide (p_r.Old < p_r.Young))) || (decide (120 < p_r.Old))) then
  some 1
  else
  Chk (!decide (p_r.Course = 0)) (
  if !decide ((Int.tmod p_r.Metres p_r.Course) = 0) then
  some 3
  else
  Gx (fun (c1 : Bool) =>
  Gx (fun (x1 : Bool) =>
  if x1 then
  some 16
  else
  some 0) (fun j2 =>
  if c1 then
  j2 c1
  else
  j2 (((decide (p_r.Stroke = 5)) && (decide (1 < p_r.Legs))) && (!decide (p_r.Legs = 4))))) (fun j1 =>
  if ((decide (p_r.Stroke = 5)) && (decide (p_r.Legs = 1))) then Chk (!decide ((W (4 * p_r.Course)) = 0)) (
  j1 (((decide (p_r.Stroke = 5)) && (decide (p_r.Legs = 1))) && (!decide ((Int.tmod p_r.Metres (W (4 * p_r.Course))) = 0)))) else j1 (((decide (p_r.Stroke = 5)) && (decide (p_r.Legs = 1))) && true))))
def Up (p_x : Du) (p_a1 : Du) : Bool :=
  decide (p_x.Key = p_a1.Key)
def Gg (p_f_0 : Du) (j1 : Int) : List Du → Nat → Int
  | [],_=>j1
  | y1 :: ys1,i1=>if (Up y1 p_f_0) then
  (i1 : Int)
  else
  Gg p_f_0 j1 ys1 (i1 + 1)
def Lh (p_s : List Du) (p_f_0 : Du) : Int :=
  Gx ((-1)) (fun j1 =>
  Gg p_f_0 j1 p_s 0)
def Jh (p_s : List Du) (p_f_0 : Du) : Bool :=
  decide (0 ≤ (Lh p_s p_f_0))
def Kv (p_t : Jx) (j1 : Option Int) : List Int → Nat → Option Int
  | [],_=>j1
  | y1 :: ys1,i1=>if !(Dt y1 0 10000) then
  some 1
  else
  Gx (fun (c1 : Bool) =>
  if c1 then
  some 7
  else
  Kv p_t j1 ys1 (i1 + 1)) (fun j2 =>
  if (decide (0 < (i1 : Int))) then Chk (inB (W ((i1 : Int) - 1)) p_t.Points.length) (
  j2 ((decide (0 < (i1 : Int))) && (decide ((nth p_t.Points (W ((i1 : Int) - 1))) < y1)))) else j2 ((decide (0 < (i1 : Int))) && true))
def Pj (p_t : Jx) : Option Int :=
  if decide (40 < (p_t.Points.length : Int)) then
  some 2
  else
  Gx (if ((!(Dt p_t.Relay 1 10)) || (!(Dt p_t.Most 0 10))) then
  some 1
  else
  some 0) (fun j1 =>
  Kv p_t j1 p_t.Points 0)
def Sa (p_f : Uk) : Int :=
  if (((!(Dt p_f.Size 1 10)) || (!(Dt p_f.Many 1 5))) || (!(Dt p_f.Reserves 0 10))) then
  1
  else
  0
def Mh (p_p : Jr) (j1 : Option Int) : List Du → Nat → Option Int
  | [],_=>j1
  | y1 :: ys1,i1=>Option.bind (Ov y1) (fun r1 =>
  if !decide (r1 = 0) then
  some r1
  else
  Chk (EG 0 (i1 : Int) p_p.Races.length) (
  if (Jh (cut p_p.Races 0 (i1 : Int)) y1) then
  some 6
  else
  Mh p_p j1 ys1 (i1 + 1)))
def Uw (p_p : Jr) : Option Int :=
  if decide (100 < (p_p.Races.length : Int)) then
  some 2
  else
  Gx (Option.bind (Pj p_p.Table) (fun r2 =>
  if !decide (r2 = 0) then
  some r2
  else
  some (Sa p_p.Final))) (fun j1 =>
  Mh p_p j1 p_p.Races 0)
def Jb (p_n : Int) : Bool :=
  ((decide (0 ≤ p_n)) && (decide (p_n < 345686400000)))
def Rt (p_x : Di) : Option Int :=
  Option.bind (Hk p_x.Site) (fun r1 =>
  if !r1 then
  some 5
  else
  if ((!(Dt p_x.No 1 1000000)) || (!(Jb p_x.At))) then
  some 1
  else
  if !(Dt p_x.Kind 1 4) then
  some 4
  else
  Gx (fun (c1 : Bool) =>
  Gx (fun (x1 : Bool) =>
  if x1 then
  some 5
  else
  Gx (fun (x2 : Bool) =>
  if x2 then
  some 1
  else
  Gx (fun (c4 : Bool) =>
  if c4 then
  some 5
  else
  if ((decide (p_x.Kind = 4)) && (!(Dt p_x.Other 1 1000000))) then
  some 1
  else
  Gx (fun (x3 : ByteArray) (x4 : ByteArray) (x5 : ByteArray) (x6 : Int) (x7 : Int) (x8 : ByteArray) (x9 : Int) =>
  if !decide (p_x = (Di.mk p_x.Site p_x.No p_x.At p_x.Kind x3 x4 x5 x6 x7 x8 x9)) then
  some 3
  else
  some 0) (fun j7 =>
  Gx (fun (x10 : ByteArray) (x11 : ByteArray) (x12 : ByteArray) (x13 : Int) (x14 : Int) (x15 : ByteArray) (x16 : Int) =>
  j7 x10 x11 x12 x13 x14 x15 x16) (fun j8 =>
  if decide (p_x.Kind = 1) then
  j8 p_x.Who p_x.Club p_x.Race p_x.Time 0 An 0
  else
  Gx (fun (x17 : ByteArray) (x18 : ByteArray) (x19 : Int) (x20 : Int) (x21 : ByteArray) (x22 : Int) =>
  j8 x17 An x18 x19 x20 x21 x22) (fun j9 =>
  if decide (p_x.Kind = 3) then
  j9 p_x.Who p_x.Race p_x.Time p_x.Fault An 0
  else
  Gx (fun (x23 : ByteArray) (x24 : ByteArray) (x25 : ByteArray) (x26 : Int) =>
  j9 x23 x24 0 0 x25 x26) (fun j10 =>
  if decide (p_x.Kind = 4) then
  j10 An An p_x.Of p_x.Other
  else
  j10 p_x.Who p_x.Race An 0))))) (fun j6 =>
  if (decide (p_x.Kind = 4)) then Option.bind (Hk p_x.Of) (fun r5 =>
  j6 ((decide (p_x.Kind = 4)) && (!r5))) else j6 ((decide (p_x.Kind = 4)) && true))) (fun j5 =>
  if (((decide (p_x.Kind = 1)) || (decide (p_x.Kind = 3))) && (!(Dt p_x.Time 0 360000))) then
  j5 (((decide (p_x.Kind = 1)) || (decide (p_x.Kind = 3))) && (!(Dt p_x.Time 0 360000)))
  else
  j5 ((decide (p_x.Kind = 3)) && (!(Dt p_x.Fault 0 8))))) (fun j3 =>
  if c1 then
  j3 c1
  else
  Gx (fun (c3 : Bool) =>
  j3 c3) (fun j4 =>
  if ((decide (p_x.Kind = 1)) && (!decide (p_x.Club = An))) then Option.bind (Hk p_x.Club) (fun r4 =>
  j4 (((decide (p_x.Kind = 1)) && (!decide (p_x.Club = An))) && (!r4))) else j4 (((decide (p_x.Kind = 1)) && (!decide (p_x.Club = An))) && true)))) (fun j1 =>
  if (!(decide (p_x.Kind = 4))) then Option.bind (Hk p_x.Who) (fun r2 =>
  Gx (fun (c2 : Bool) =>
  j1 ((!(decide (p_x.Kind = 4))) && c2)) (fun j2 =>
  if (!r2) then j2 ((!r2) || true) else Option.bind (Hk p_x.Race) (fun r3 =>
  j2 ((!r2) || (!r3))))) else j1 ((!(decide (p_x.Kind = 4))) && true)))
def Uh (p_x : Int) : Bool :=
  !decide (p_x = p_x)
def Kw (p_x : Int) (p_y : Int) : Int :=
  if (Uh p_x) then
  if (Uh p_y) then
  0
  else
  (-1)
  else
  if (Uh p_y) then
  1
  else
  if decide (p_x < p_y) then
  (-1)
  else
  if decide (p_y < p_x) then
  1
  else
  0
def Mz (j1 : Int) : List Int → Nat → Int
  | [],_=>j1
  | y1 :: ys1,i1=>if !decide (y1 = 0) then
  y1
  else
  Mz j1 ys1 (i1 + 1)
def Ux (p_vals : List Int) : Int :=
  Gx (0) (fun j1 =>
  Mz j1 p_vals 0)
def Nw (p_a : Di) (p_b : Di) : Int :=
  (Ux [(Kw p_a.At p_b.At),(Hl p_a.Site p_b.Site),(Kw p_a.No p_b.No)])
def Fl (p_x : Di) : Ev :=
  (Ev.mk p_x.Site p_x.No)
def Iv (p_l : List Di) (j1 : (List (Ev × Bool)) → Bool → Option Int) : List Di → Nat → (List (Ev × Bool)) → Bool → Option Int
  | [],_,x1,x2=>j1 x1 x2
  | y1 :: ys1,i1,x1,x2=>Option.bind (Rt y1) (fun r1 =>
  if !decide (r1 = 0) then
  some r1
  else
  Gx (fun (x3 : Bool) =>
  if x3 then
  some 7
  else
  Iv p_l j1 ys1 (i1 + 1) (Gk x1 (Fl y1) true) (x2 || (Ec x1 (Fl y1) false))) (fun j2 =>
  if decide (0 < (i1 : Int)) then
  Chk (inB (W ((i1 : Int) - 1)) p_l.length) (
  j2 (decide (0 ≤ (Nw (nth p_l (W ((i1 : Int) - 1))) y1))))
  else
  j2 false))
def Qq (p_l : List Di) : Option Int :=
  if decide (2000 < (p_l.length : Int)) then
  some 2
  else
  Gx (fun (x1 : List (Ev × Bool)) (x2 : Bool) =>
  if x2 then
  some 6
  else
  some 0) (fun j1 =>
  Iv p_l j1 p_l 0 ([] : List (Ev × Bool)) false)
def Kf (j1 : (List Int) → Option (List Int)) : Nat → (List Int) → Int → Int → Option (List Int)
  | 0,_,_,_=>none
  | m1 + 1,x1,x2,x3=>if decide (x2 < x3) then
  Chk (inB x3 x1.length) (
  Chk (inB x2 x1.length) (
  Chk (inB x2 x1.length) (
  Chk (inB x3 (x1.set x2.toNat (nth x1 x3)).length) (
  Kf j1 m1 ((x1.set x2.toNat (nth x1 x3)).set x3.toNat (nth x1 x2)) (W (x2 + 1)) (W (x3 - 1))))))
  else
  j1 x1
def Pu (p_s : List Int) : Option (List Int) :=
  Gx (fun (x1 : List Int) =>
  some x1) (fun j1 =>
  Kf j1 (((W ((p_s.length : Int) - 1)) - 0).toNat + 2) p_s 0 (W ((p_s.length : Int) - 1)))
  /-- Which of the deeds count,from the last one on. -/
def Xp (l : List Di) (at_ : Int) (i : Nat) (m : List (Ev × Bool)) : Bool:=decide (at_ < (nth l (i : Int)).At) || Ec m (Fl (nth l (i : Int))) false
def Lk (l : List Di) (at_ : Int) : List Nat → List (Ev × Bool) → List Int → Option (List Int)
  | [],_,x=>Pu x
  | i :: is,m,x=>if Xp l at_ i m then Lk l at_ is m x else
    Chk (St x.length) (Lk l at_ is (if decide ((nth l (i : Int)).Kind = 4) then Gk m (Ev.mk ((nth l (i : Int)).Of) ((nth l (i : Int)).Other)) true else m) (x ++ [(i : Int)]))
def Xz (l : List Di) (at_ : Int) : Option (List Int):=Lk l at_ (Zb l.length) [] []
def Ms (p_l : List Di) (j1 : (List Di) → Option (Option Lc)) : List Int → Nat → (List Di) → Option (Option Lc)
  | [],_,x1=>j1 x1
  | y1 :: ys1,i1,x1=>Chk (inB y1 p_l.length) (
  Chk (St x1.length) (
  Ms p_l j1 ys1 (i1 + 1) (x1 ++ [(nth p_l y1)])))
def Wz (p_p : Jr) (p_l : List Di) (p_at : Int) : Option (Option Lc) :=
  Option.bind (Xz p_l p_at) (fun r1 =>
  Gx (fun (x1 : List Di) =>
  some (some (Lc.mk p_p x1))) (fun j1 =>
  Ms p_l j1 r1 0 ([] : List Di)))
def Py (j1 : Option ((Option Lc) × Int)) : List Int → Nat → Option ((Option Lc) × Int)
  | [],_=>j1
  | y1 :: ys1,i1=>if !(Jb y1) then
  some (none,1)
  else
  Py j1 ys1 (i1 + 1)
def Za (p_p : Jr) (p_l : List Di) (p_at : List Int) : Option ((Option Lc) × Int) :=
  Option.bind (Uw p_p) (fun r1 =>
  if !decide (r1 = 0) then
  some (none,r1)
  else
  Option.bind (Qq p_l) (fun r2 =>
  if !decide (r2 = 0) then
  some (none,r2)
  else
  Gx (Chk (inB (W ((p_at.length : Int) - 1)) p_at.length) (
  Option.bind (Wz p_p p_l (nth p_at (W ((p_at.length : Int) - 1)))) (fun r3 =>
  some (r3,0)))) (fun j1 =>
  Py j1 p_at 0)))
def Ya (p_r : Du) (p_a1 : ByteArray) : Bool :=
  decide (p_r.Key = p_a1)
def Gu (p_f_0 : ByteArray) (j1 : Int) : List Du → Nat → Int
  | [],_=>j1
  | y1 :: ys1,i1=>if (Ya y1 p_f_0) then
  (i1 : Int)
  else
  Gu p_f_0 j1 ys1 (i1 + 1)
def Gv (p_s : List Du) (p_f_0 : ByteArray) : Int :=
  Gx ((-1)) (fun j1 =>
  Gu p_f_0 j1 p_s 0)
def Ow (p_a : Di) (p_b : Di) : Int :=
  (Hl p_a.Who p_b.Who)
def Em (p_a : Int) (j2 : (List Di) → Option (List Di)) : Nat → (List Di) → Int → Option (List Di)
  | 0,_,_=>none
  | m2 + 1,x3,x4=>Gx (fun (x5 : Bool) =>
  if x5 then
  Chk (inB (W (x4 - 1)) x3.length) (
  Chk (inB x4 x3.length) (
  Chk (inB x4 x3.length) (
  Chk (inB (W (x4 - 1)) (x3.set x4.toNat (nth x3 (W (x4 - 1)))).length) (
  Em p_a j2 m2 ((x3.set x4.toNat (nth x3 (W (x4 - 1)))).set ((W (x4 - 1)).toNat) (nth x3 x4)) (W (x4 - 1))))))
  else
  j2 x3) (fun j3 =>
  if decide (p_a < x4) then
  Chk (inB x4 x3.length) (
  Chk (inB (W (x4 - 1)) x3.length) (
  j3 (decide ((Ow (nth x3 x4) (nth x3 (W (x4 - 1)))) < 0))))
  else
  j3 false)
def Fm (p_b : Int) (p_a : Int) (j1 : (List Di) → Option (List Di)) : Nat → (List Di) → Int → Option (List Di)
  | 0,_,_=>none
  | m1 + 1,x1,x2=>if decide (x2 < p_b) then
  Gx (fun (x3 : List Di) =>
  Fm p_b p_a j1 m1 x3 (W (x2 + 1))) (fun j2 =>
  Em p_a j2 ((x2 - p_a).toNat + 2) x1 x2)
  else
  j1 x1
def Ii (p_data : List Di) (p_a : Int) (p_b : Int) : Option (List Di) :=
  Gx (fun (x1 : List Di) =>
  some x1) (fun j1 =>
  Fm p_b p_a j1 ((p_b - (W (p_a + 1))).toNat + 2) p_data (W (p_a + 1)))
def Gw (p_data : List Di) : Nat → Int → Int → Int → Bool → Option (List Di)
  | 0,_,_,_,_=>none
  | _ + 1,x1,x2,x3,x4=>if decide ((W (x2 - x1)) ≤ 12) then
  Option.bind (Ii p_data x1 x2) (fun r1 =>
  some r1)
  else
  if decide (x3 = 0) then
  none
  else
  if !x4 then
  none
  else
  none
def Kl (p_data : List Di) (p_a : Int) (p_b : Int) (p_limit : Int) : Option (List Di) :=
  Gw p_data 4611686018427387904 p_a p_b p_limit true
def Kd (p_x : List Di) : Option (List Di) :=
  Option.bind (Zg (IntKind.wrap .u64 (p_x.length : Int))) (fun r1 =>
  Option.bind (Kl p_x 0 (p_x.length : Int) r1) (fun r2 =>
  some r2))
def Mc (p_race : ByteArray) (j1 : (List (ByteArray × Di)) → Option (List Di)) : List Di → Nat → (List (ByteArray × Di)) → Option (List Di)
  | [],_,x1=>j1 x1
  | y1 :: ys1,i1,x1=>Gx (fun (x2 : List (ByteArray × Di)) =>
  Mc p_race j1 ys1 (i1 + 1) x2) (fun j2 =>
  if !decide (y1.Race = p_race) then
  j2 x1
  else
  Gx (fun (x3 : List (ByteArray × Di)) =>
  j2 x3) (fun j3 =>
  Gx (fun (x4 : List (ByteArray × Di)) =>
  j3 x4) (fun j4 =>
  if decide (y1.Kind = 1) then
  j4 (Gk x1 y1.Who y1)
  else
  Gx (fun (x5 : List (ByteArray × Di)) =>
  j4 x5) (fun j5 =>
  if decide (y1.Kind = 2) then
  j5 (CF x1 y1.Who)
  else
  j5 x1))))
def Na (j6 : (List Di) → Option (List Di)) : List (ByteArray × Di) → (List Di) → Option (List Di)
  | [],x6=>j6 x6
  | y2 :: ys2,x6=>Option.bind (α:=(List Di)) (
  Chk (St x6.length) (
  some (x6 ++ [y2.2]))) (fun s=>Na j6 ys2 s)
def Rc (p_s_p : Jr) (p_s_deeds : List Di) (p_race : ByteArray) : Option (List Di) :=
  Gx (fun (x1 : List (ByteArray × Di)) =>
  Gx (fun (x6 : List Di) =>
  Option.bind (Kd x6) (fun r1 =>
  some r1)) (fun j6 =>
  OO x1 (fun p=>Na j6 p ([] : List Di)))) (fun j1 =>
  Mc p_race j1 p_s_deeds 0 ([] : List (ByteArray × Di)))
def Xq (p_s_p : Jr) (p_s_deeds : List Di) (p_key : ByteArray) : Option (Du × Int) :=
  if decide ((Gv p_s_p.Races p_key) < 0) then
  some ((Du.mk An 0 0 0 0 0 0 0),8)
  else
  Option.bind (Rc p_s_p p_s_deeds p_key) (fun r1 =>
  if decide (300 < (r1.length : Int)) then
  some ((Du.mk An 0 0 0 0 0 0 0),2)
  else
  Chk (inB (Gv p_s_p.Races p_key) p_s_p.Races.length) (
  some ((nth p_s_p.Races (Gv p_s_p.Races p_key)),0)))
def CY (p_p : Jr) (p_l : List Di) (p_race : ByteArray) (p_at : Int) : Option ((Option Lc) × Du × Int) :=
  Option.bind (Za p_p p_l ([p_at] : List Int)) (fun r1 =>
  if !decide (r1.2 = 0) then
  some (none,(Du.mk An 0 0 0 0 0 0 0),r1.2)
  else
  Option.bind (r1.1) (fun r2 =>
  Option.bind (Xq r2.p_ r2.deeds_ p_race) (fun r3 =>
  some (some r2,r3.1,r3.2))))
def Pd (p_race : ByteArray) (j1 : (List (ByteArray × Di)) → (List (ByteArray × Di))) : List Di → Nat → (List (ByteArray × Di)) → (List (ByteArray × Di))
  | [],_,x1=>j1 x1
  | y1 :: ys1,i1,x1=>Gx (fun (x2 : List (ByteArray × Di)) =>
  Pd p_race j1 ys1 (i1 + 1) x2) (fun j2 =>
  Gx (fun (x3 : List (ByteArray × Di)) =>
  j2 x3) (fun j3 =>
  if ((decide (y1.Race = p_race)) && (decide (y1.Kind = 3))) then
  j3 (Gk x1 y1.Who y1)
  else
  j3 x1))
def Ic (p_s_p : Jr) (p_s_deeds : List Di) (p_race : ByteArray) : (List (ByteArray × Di)) :=
  Gx (fun (x1 : List (ByteArray × Di)) =>
  x1) (fun j1 =>
  Pd p_race j1 p_s_deeds 0 ([] : List (ByteArray × Di)))
def Lq (j1 : (List (ByteArray × Bool)) → Bool → Option Int) : List Kj → Nat → (List (ByteArray × Bool)) → Bool → Option Int
  | [],_,x1,x2=>j1 x1 x2
  | y1 :: ys1,i1,x1,x2=>Option.bind (Hk y1.Who) (fun r1 =>
  if !r1 then
  some 5
  else
  if !(Dt y1.Time 0 360000) then
  some 1
  else
  Lq j1 ys1 (i1 + 1) (Gk x1 y1.Who true) (x2 || (Ec x1 y1.Who false)))
def Ua (p_l : List Kj) : Option Int :=
  if decide (300 < (p_l.length : Int)) then
  some 2
  else
  Gx (fun (x1 : List (ByteArray × Bool)) (x2 : Bool) =>
  if x2 then
  some 6
  else
  some 0) (fun j1 =>
  Lq j1 p_l 0 ([] : List (ByteArray × Bool)) false)
def Jt (p_v : List Iz) (j1 : Option Int) : List Iz → Nat → Option Int
  | [],_=>j1
  | y1 :: ys1,i1=>Option.bind (Hk y1.Who) (fun r2 =>
  if !r2 then
  some 5
  else
  if !(Dt y1.Fault 0 8) then
  some 4
  else
  Gx (fun (c1 : Bool) =>
  if c1 then
  some 7
  else
  Jt p_v j1 ys1 (i1 + 1)) (fun j2 =>
  if (decide (0 < (i1 : Int))) then Chk (inB (W ((i1 : Int) - 1)) p_v.length) (
  j2 ((decide (0 < (i1 : Int))) && (EQ y1.Who ((nth p_v (W ((i1 : Int) - 1))).Who) || decide (y1.Who = ((nth p_v (W ((i1 : Int) - 1))).Who))))) else j2 ((decide (0 < (i1 : Int))) && true)))
def Qv (p_v : List Iz) : Option Int :=
  if decide (300 < (p_v.length : Int)) then
  some 2
  else
  Gx (some 0) (fun j1 =>
  Jt p_v j1 p_v 0)
def Wd (p_a : Ds) (p_b : Ds) (p_a2 : Int) : Option Int :=
  Chk (!decide (p_a2 = 0)) (
  Chk (!decide (p_a2 = 0)) (
  some (W ((W (Int.tdiv p_a.Time p_a2)) - (W (Int.tdiv p_b.Time p_a2))))))
def Eo (p_a : Int) (p_cmp_0 : Int) (j2 : (List Ds) → Option (List Ds)) : Nat → (List Ds) → Int → Option (List Ds)
  | 0,_,_=>none
  | m2 + 1,x3,x4=>Gx (fun (x5 : Bool) =>
  if x5 then
  Chk (inB (W (x4 - 1)) x3.length) (
  Chk (inB x4 x3.length) (
  Chk (inB x4 x3.length) (
  Chk (inB (W (x4 - 1)) (x3.set x4.toNat (nth x3 (W (x4 - 1)))).length) (
  Eo p_a p_cmp_0 j2 m2 ((x3.set x4.toNat (nth x3 (W (x4 - 1)))).set ((W (x4 - 1)).toNat) (nth x3 x4)) (W (x4 - 1))))))
  else
  j2 x3) (fun j3 =>
  if decide (p_a < x4) then
  Chk (inB x4 x3.length) (
  Chk (inB (W (x4 - 1)) x3.length) (
  Option.bind (Wd (nth x3 x4) (nth x3 (W (x4 - 1))) p_cmp_0) (fun r1 =>
  j3 (decide (r1 < 0)))))
  else
  j3 false)
def Fp (p_b : Int) (p_a : Int) (p_cmp_0 : Int) (j1 : (List Ds) → Option (List Ds)) : Nat → (List Ds) → Int → Option (List Ds)
  | 0,_,_=>none
  | m1 + 1,x1,x2=>if decide (x2 < p_b) then
  Gx (fun (x3 : List Ds) =>
  Fp p_b p_a p_cmp_0 j1 m1 x3 (W (x2 + 1))) (fun j2 =>
  Eo p_a p_cmp_0 j2 ((x2 - p_a).toNat + 2) x1 x2)
  else
  j1 x1
def Hs (p_data : List Ds) (p_a : Int) (p_b : Int) (p_cmp_0 : Int) : Option (List Ds) :=
  Gx (fun (x1 : List Ds) =>
  some x1) (fun j1 =>
  Fp p_b p_a p_cmp_0 j1 ((p_b - (W (p_a + 1))).toNat + 2) p_data (W (p_a + 1)))
def Gl (p_n : Int) (p_cmp_0 : Int) (j1 : (List Ds) → Int → Option (List Ds)) : Nat → (List Ds) → Int → Int → Option (List Ds)
  | 0,_,_,_=>none
  | m1 + 1,x1,x2,x3=>if decide (x3 ≤ p_n) then
  Option.bind (Hs x1 x2 x3 p_cmp_0) (fun r1 =>
  Gl p_n p_cmp_0 j1 m1 r1 x3 (W (x3 + 20)))
  else
  j1 x1 x2
def Hm (p_n : Int) (j3 : Int → Option (List Ds)) : Nat → Int → Int → Option (List Ds)
  | 0,_,_=>none
  | _ + 1,x5,x6=>if decide (x6 ≤ p_n) then
  none
  else
  j3 x5
def Gm (p_n : Int) (j2 : Option (List Ds)) : Nat → Int → Option (List Ds)
  | 0,_=>none
  | m2 + 1,x4=>if decide (x4 < p_n) then
  Gx (fun (x5 : Int) =>
  if decide ((W (x5 + x4)) < p_n) then
  none
  else
  Gm p_n j2 m2 (W (x4 * 2))) (fun j3 =>
  Hm p_n j3 ((p_n - (W (2 * x4))).toNat + 2) 0 (W (2 * x4)))
  else
  j2
def Kx (p_data : List Ds) (p_n : Int) (p_cmp_0 : Int) : Option (List Ds) :=
  Gx (fun (x1 : List Ds) (x2 : Int) =>
  Option.bind (Hs x1 x2 p_n p_cmp_0) (fun r2 =>
  Gx (some r2) (fun j2 =>
  Gm p_n j2 ((p_n - 20).toNat + 2) 20))) (fun j1 =>
  Gl p_n p_cmp_0 j1 ((p_n - 20).toNat + 2) p_data 0 20)
def Ji (p_x : List Ds) (p_cmp_0 : Int) : Option (List Ds) :=
  Option.bind (Kx p_x (p_x.length : Int) p_cmp_0) (fun r1 =>
  some r1)
def Pe (j1 : (List (ByteArray × Int)) → Option ((List Ds) × Int)) : List Iz → Nat → (List (ByteArray × Int)) → Option ((List Ds) × Int)
  | [],_,x1=>j1 x1
  | y1 :: ys1,i1,x1=>Pe j1 ys1 (i1 + 1) (Gk x1 y1.Who y1.Fault)
def Oc (x1 : List (ByteArray × Int)) (j2 : (List Ds) → (List Ds) → Option ((List Ds) × Int)) : List Kj → Nat → (List Ds) → (List Ds) → Option ((List Ds) × Int)
  | [],_,x2,x3=>j2 x2 x3
  | y2 :: ys2,i2,x2,x3=>Gx (fun (x4 : List Ds) (x5 : List Ds) =>
  Oc x1 j2 ys2 (i2 + 1) x4 x5) (fun j3 =>
  Gx (fun (x6 : List Ds) (x7 : List Ds) =>
  j3 x6 x7) (fun j4 =>
  if ((decide ((Ec x1 y2.Who 0) = 0)) && (decide (0 < y2.Time))) then
  Chk (St x3.length) (
  j4 x2 (x3 ++ [(Ds.mk y2.Who 0 y2.Time (Ec x1 y2.Who 0))]))
  else
  Chk (St x2.length) (
  j4 (x2 ++ [(Ds.mk y2.Who 0 y2.Time (Ec x1 y2.Who 0))]) x3)))
def Od (p_by : Int) (j5 : (List Ds) → Option ((List Ds) × Int)) : List Ds → Nat → (List Ds) → Option ((List Ds) × Int)
  | [],_,x8=>j5 x8
  | _ :: ys3,i3,x8=>Gx (fun (x9 : List Ds) =>
  Od p_by j5 ys3 (i3 + 1) x9) (fun j6 =>
  Gx (fun (c1 : Bool) =>
  Gx (fun (x10 : List Ds) =>
  j6 x10) (fun j8 =>
  if c1 then
  Chk (inB (W ((i3 : Int) - 1)) x8.length) (
  Chk (inB (i3 : Int) x8.length) (
  j8 (x8.set ((i3 : Int).toNat) (Ds.mk ((nth x8 (i3 : Int)).Who) ((nth x8 (W ((i3 : Int) - 1))).Rank) ((nth x8 (i3 : Int)).Time) ((nth x8 (i3 : Int)).Fault)))))
  else
  Chk (inB (i3 : Int) x8.length) (
  j8 (x8.set ((i3 : Int).toNat) (Ds.mk ((nth x8 (i3 : Int)).Who) (W ((i3 : Int) + 1)) ((nth x8 (i3 : Int)).Time) ((nth x8 (i3 : Int)).Fault)))))) (fun j7 =>
  if (decide (0 < (i3 : Int))) then Chk (inB (i3 : Int) x8.length) (
  Chk (!decide (p_by = 0)) (
  Chk (inB (W ((i3 : Int) - 1)) x8.length) (
  Chk (!decide (p_by = 0)) (
  j7 ((decide (0 < (i3 : Int))) && (decide ((W (Int.tdiv ((nth x8 (i3 : Int)).Time) p_by)) = (W (Int.tdiv ((nth x8 (W ((i3 : Int) - 1))).Time) p_by))))))))) else j7 ((decide (0 < (i3 : Int))) && true)))
def BO (p_l : List Kj) (p_v : List Iz) (p_by : Int) : Option ((List Ds) × Int) :=
  Option.bind (Ua p_l) (fun r1 =>
  if !decide (r1 = 0) then
  some (([] : List Ds),r1)
  else
  Option.bind (Qv p_v) (fun r2 =>
  if !decide (r2 = 0) then
  some (([] : List Ds),r2)
  else
  Gx (fun (x1 : List (ByteArray × Int)) =>
  Gx (fun (x2 : List Ds) (x3 : List Ds) =>
  Option.bind (Ji x3 p_by) (fun r4 =>
  Gx (fun (x8 : List Ds) =>
  Chk (decide (x8.length + x2.length < 1073741824)) (
  some ((x8 ++ x2),0))) (fun j5 =>
  Od p_by j5 r4 0 r4))) (fun j2 =>
  Oc x1 j2 p_l 0 ([] : List Ds) ([] : List Ds))) (fun j1 =>
  Pe j1 p_v 0 ([] : List (ByteArray × Int)))))
def Xr (p_l : List Kj) (p_v : List Iz) : Option ((List Ds) × Int) :=
  Option.bind (BO p_l p_v 1) (fun r1 =>
  some (r1.1,r1.2))
def Mt (p_s_p : Jr) (p_s_deeds : List Di) (p_race : ByteArray) (j1 : (List Iz) → (List Kj) → (List (ByteArray × ByteArray)) → Option ((List Ds) × (List (ByteArray × ByteArray)) × Int)) : List Di → Nat → (List Iz) → (List Kj) → (List (ByteArray × ByteArray)) → Option ((List Ds) × (List (ByteArray × ByteArray)) × Int)
  | [],_,x1,x2,x3=>j1 x1 x2 x3
  | y1 :: ys1,i1,x1,x2,x3=>Gx (fun (x4 : List Iz) (x5 : List Kj) (x6 : List (ByteArray × ByteArray)) =>
  Mt p_s_p p_s_deeds p_race j1 ys1 (i1 + 1) x4 x5 x6) (fun j2 =>
  if !((Qm (Ic p_s_p p_s_deeds p_race) y1.Who).isSome) then
  j2 x1 x2 x3
  else
  Chk (St x2.length) (
  Gx (fun (x7 : List Iz) =>
  j2 x7 (x2 ++ [(Kj.mk y1.Who ((Ec (Ic p_s_p p_s_deeds p_race) y1.Who (Di.mk An 0 0 0 An An An 0 0 An 0)).Time))]) (Gk x3 y1.Who y1.Club)) (fun j3 =>
  if decide (0 < ((Ec (Ic p_s_p p_s_deeds p_race) y1.Who (Di.mk An 0 0 0 An An An 0 0 An 0)).Fault)) then
  Chk (St x1.length) (
  j3 (x1 ++ [(Iz.mk y1.Who ((Ec (Ic p_s_p p_s_deeds p_race) y1.Who (Di.mk An 0 0 0 An An An 0 0 An 0)).Fault) ([] : List ByteArray))]))
  else
  j3 x1)))
def Xa (p_s_p : Jr) (p_s_deeds : List Di) (p_race : ByteArray) : Option ((List Ds) × (List (ByteArray × ByteArray)) × Int) :=
  Option.bind (Rc p_s_p p_s_deeds p_race) (fun r1 =>
  Gx (fun (x1 : List Iz) (x2 : List Kj) (x3 : List (ByteArray × ByteArray)) =>
  Option.bind (Xr x2 x1) (fun r2 =>
  some (r2.1,x3,r2.2))) (fun j1 =>
  Mt p_s_p p_s_deeds p_race j1 r1 0 ([] : List Iz) ([] : List Kj) ([] : List (ByteArray × ByteArray))))
def Nx (p_a : Dj) (p_b : Dj) : Int :=
  if !decide ((decide (p_a.Rank = 0)) = (decide (p_b.Rank = 0))) then
  W (p_b.Rank - p_a.Rank)
  else
  if !decide (p_a.Rank = p_b.Rank) then
  W (p_a.Rank - p_b.Rank)
  else
  (Hl p_a.Who p_b.Who)
def El (p_a : Int) (j2 : (List Dj) → Option (List Dj)) : Nat → (List Dj) → Int → Option (List Dj)
  | 0,_,_=>none
  | m2 + 1,x3,x4=>Gx (fun (x5 : Bool) =>
  if x5 then
  Chk (inB (W (x4 - 1)) x3.length) (
  Chk (inB x4 x3.length) (
  Chk (inB x4 x3.length) (
  Chk (inB (W (x4 - 1)) (x3.set x4.toNat (nth x3 (W (x4 - 1)))).length) (
  El p_a j2 m2 ((x3.set x4.toNat (nth x3 (W (x4 - 1)))).set ((W (x4 - 1)).toNat) (nth x3 x4)) (W (x4 - 1))))))
  else
  j2 x3) (fun j3 =>
  if decide (p_a < x4) then
  Chk (inB x4 x3.length) (
  Chk (inB (W (x4 - 1)) x3.length) (
  j3 (decide ((Nx (nth x3 x4) (nth x3 (W (x4 - 1)))) < 0))))
  else
  j3 false)
def Fh (p_b : Int) (p_a : Int) (j1 : (List Dj) → Option (List Dj)) : Nat → (List Dj) → Int → Option (List Dj)
  | 0,_,_=>none
  | m1 + 1,x1,x2=>if decide (x2 < p_b) then
  Gx (fun (x3 : List Dj) =>
  Fh p_b p_a j1 m1 x3 (W (x2 + 1))) (fun j2 =>
  El p_a j2 ((x2 - p_a).toNat + 2) x1 x2)
  else
  j1 x1
def Hj (p_data : List Dj) (p_a : Int) (p_b : Int) : Option (List Dj) :=
  Gx (fun (x1 : List Dj) =>
  some x1) (fun j1 =>
  Fh p_b p_a j1 ((p_b - (W (p_a + 1))).toNat + 2) p_data (W (p_a + 1)))
def Fz (p_n : Int) (j1 : (List Dj) → Int → Option (List Dj)) : Nat → (List Dj) → Int → Int → Option (List Dj)
  | 0,_,_,_=>none
  | m1 + 1,x1,x2,x3=>if decide (x3 ≤ p_n) then
  Option.bind (Hj x1 x2 x3) (fun r1 =>
  Fz p_n j1 m1 r1 x3 (W (x3 + 20)))
  else
  j1 x1 x2
def Hf (p_n : Int) (j3 : Int → Option (List Dj)) : Nat → Int → Int → Option (List Dj)
  | 0,_,_=>none
  | _ + 1,x5,x6=>if decide (x6 ≤ p_n) then
  none
  else
  j3 x5
def Ga (p_n : Int) (j2 : Option (List Dj)) : Nat → Int → Option (List Dj)
  | 0,_=>none
  | m2 + 1,x4=>if decide (x4 < p_n) then
  Gx (fun (x5 : Int) =>
  if decide ((W (x5 + x4)) < p_n) then
  none
  else
  Ga p_n j2 m2 (W (x4 * 2))) (fun j3 =>
  Hf p_n j3 ((p_n - (W (2 * x4))).toNat + 2) 0 (W (2 * x4)))
  else
  j2
def Ke (p_data : List Dj) (p_n : Int) : Option (List Dj) :=
  Gx (fun (x1 : List Dj) (x2 : Int) =>
  Option.bind (Hj x1 x2 p_n) (fun r2 =>
  Gx (some r2) (fun j2 =>
  Ga p_n j2 ((p_n - 20).toNat + 2) 20))) (fun j1 =>
  Fz p_n j1 ((p_n - 20).toNat + 2) p_data 0 20)
def Hh (p_x : List Dj) : Option (List Dj) :=
  Option.bind (Ke p_x (p_x.length : Int)) (fun r1 =>
  some r1)
def Ly (p_a : Int) (p_b : Int) : Int :=
  Gx (fun (x1 : Int) =>
  Gx (fun (x2 : Int) =>
  W (x1 - x2)) (fun j2 =>
  if decide (p_b = 0) then
  j2 301
  else
  j2 p_b)) (fun j1 =>
  if decide (p_a = 0) then
  j1 301
  else
  j1 p_a)
def Te (p_a : Dj) (p_b : Dj) : Int :=
  (Ux [(Hl p_a.Race p_b.Race),(Ly p_a.Rank p_b.Rank),(Hl p_a.Who p_b.Who)])
def Nt (p_l : List Dj) (x2 : Int) (j2 : Int → Option (List (List Dj))) : Nat → Int → Option (List (List Dj))
  | 0,_=>none
  | m2 + 1,x3=>Gx (fun (c1 : Bool) =>
  if c1 then
  Nt p_l x2 j2 m2 (W (x3 + 1))
  else
  j2 x3) (fun j3 =>
  if (decide (x3 < (p_l.length : Int))) then Chk (inB x3 p_l.length) (
  Chk (inB x2 p_l.length) (
  j3 ((decide (x3 < (p_l.length : Int))) && (decide (((nth p_l x3).Race) = ((nth p_l x2).Race)))))) else j3 ((decide (x3 < (p_l.length : Int))) && true))
def Lz (p_l : List Dj) (j1 : (List (List Dj)) → Option (List (List Dj))) : Nat → (List (List Dj)) → Int → Option (List (List Dj))
  | 0,_,_=>none
  | m1 + 1,x1,x2=>if decide (x2 < (p_l.length : Int)) then
  Gx (fun (x3 : Int) =>
  Chk (EG x2 x3 p_l.length) (
  Chk (St x1.length) (
  Lz p_l j1 m1 (x1 ++ [cut p_l x2 x3]) x3))) (fun j2 =>
  Nt p_l x2 j2 (((p_l.length : Int) - (W (x2 + 1))).toNat + 2) (W (x2 + 1)))
  else
  j1 x1
def Tq (p_l : List Dj) : Option (List (List Dj)) :=
  Gx (fun (x1 : List (List Dj)) =>
  some x1) (fun j1 =>
  Lz p_l j1 (((p_l.length : Int) - 0).toNat + 2) ([] : List (List Dj)) 0)
def Tr (p_x : Dj) (p_a1 : List Dj) : Option Bool :=
  Chk (inB 0 p_a1.length) (
  some (!decide (p_x.Relay = ((nth p_a1 0).Relay))))
def Fv (p_f_0 : List Dj) (j1 : Option Int) : List Dj → Nat → Option Int
  | [],_=>j1
  | y1 :: ys1,i1=>Option.bind (Tr y1 p_f_0) (fun r1 =>
  if r1 then
  some (i1 : Int)
  else
  Fv p_f_0 j1 ys1 (i1 + 1))
def Kq (p_s : List Dj) (p_f_0 : List Dj) : Option Int :=
  Gx (some (-1)) (fun j1 =>
  Fv p_f_0 j1 p_s 0)
def Ka (p_s : List Dj) (p_f_0 : List Dj) : Option Bool :=
  Option.bind (Kq p_s p_f_0) (fun r1 =>
  some (decide (0 ≤ r1)))
def Lt (j1 : (List (Fo × Bool)) → Option Int) : List Dj → Nat → (List (Fo × Bool)) → Option Int
  | [],_,x1=>j1 x1
  | y1 :: ys1,i1,x1=>if Ec x1 (Fo.mk y1.Race y1.Who) false then
  some 6
  else
  Lt j1 ys1 (i1 + 1) (Gk x1 (Fo.mk y1.Race y1.Who) true)
def Ky (j2 : Option Int) : List (List Dj) → Nat → Option Int
  | [],_=>j2
  | y2 :: ys2,i2=>Option.bind (Ka y2 y2) (fun r3 =>
  if r3 then
  some 3
  else
  Ky j2 ys2 (i2 + 1))
def Lu (y3 : (List Dj)) (j4 : Option Int) : List Dj → Nat → Option Int
  | [],_=>j4
  | y4 :: ys4,i4=>Gx (fun (c1 : Bool) =>
  if c1 then
  some 16
  else
  Lu y3 j4 ys4 (i4 + 1)) (fun j5 =>
  if ((decide (0 < y4.Rank)) && (!decide (y4.Rank = (W ((i4 : Int) + 1))))) then Gx (fun (c2 : Bool) =>
  j5 (((decide (0 < y4.Rank)) && (!decide (y4.Rank = (W ((i4 : Int) + 1))))) && c2)) (fun j6 =>
  if (decide ((i4 : Int) = 0)) then j6 ((decide ((i4 : Int) = 0)) || true) else Chk (inB (W ((i4 : Int) - 1)) y3.length) (
  j6 ((decide ((i4 : Int) = 0)) || (!decide (y4.Rank = ((nth y3 (W ((i4 : Int) - 1))).Rank)))))) else j5 (((decide (0 < y4.Rank)) && (!decide (y4.Rank = (W ((i4 : Int) + 1))))) && true))
def Ki (j3 : Option Int) : List (List Dj) → Nat → Option Int
  | [],_=>j3
  | y3 :: ys3,i3=>Gx (Ki j3 ys3 (i3 + 1)) (fun j4 =>
  Lu y3 j4 y3 0)
def Mr (y5 : (List Dj)) (j8 : Option Int) : Nat → Int → Option Int
  | 0,_=>none
  | m1 + 1,x2=>if decide (x2 < (y5.length : Int)) then
  Chk (inB x2 y5.length) (
  Gx (fun (c3 : Bool) =>
  if c3 then
  some 12
  else
  Mr y5 j8 m1 (W (x2 + 1))) (fun j9 =>
  if (decide (0 < ((nth y5 x2).Rank))) then Chk (inB x2 y5.length) (
  Chk (inB (W (x2 - 10)) y5.length) (
  j9 ((decide (0 < ((nth y5 x2).Rank))) && (decide (((nth y5 x2).Rank) = ((nth y5 (W (x2 - 10))).Rank)))))) else j9 ((decide (0 < ((nth y5 x2).Rank))) && true)))
  else
  j8
def Kz (j7 : Option Int) : List (List Dj) → Nat → Option Int
  | [],_=>j7
  | y5 :: ys5,i5=>Gx (Kz j7 ys5 (i5 + 1)) (fun j8 =>
  Mr y5 j8 (((y5.length : Int) - 10).toNat + 2) 10)
def Sb (p_l : List Dj) : Option Int :=
  Gx (fun (x1 : List (Fo × Bool)) =>
  Option.bind (Tq p_l) (fun r1 =>
  Gx (Gx (Gx (some 0) (fun j7 =>
  Kz j7 r1 0)) (fun j3 =>
  Ki j3 r1 0)) (fun j2 =>
  Ky j2 r1 0))) (fun j1 =>
  Lt j1 p_l 0 ([] : List (Fo × Bool)))
def Kg (p_l : List Dj) (j1 : Option Int) : List Dj → Nat → Option Int
  | [],_=>j1
  | y1 :: ys1,i1=>Option.bind (Hk y1.Race) (fun r1 =>
  Gx (fun (c1 : Bool) =>
  Gx (fun (c2 : Bool) =>
  if c2 then
  some 5
  else
  if !(Dt y1.Rank 0 300) then
  some 1
  else
  Gx (fun (x1 : Bool) =>
  if x1 then
  some 7
  else
  Kg p_l j1 ys1 (i1 + 1)) (fun j5 =>
  if decide (0 < (i1 : Int)) then
  Chk (inB (W ((i1 : Int) - 1)) p_l.length) (
  j5 (decide (0 ≤ (Te (nth p_l (W ((i1 : Int) - 1))) y1))))
  else
  j5 false)) (fun j3 =>
  if c1 then j3 (c1 || true) else Gx (fun (c3 : Bool) =>
  j3 (c1 || c3)) (fun j4 =>
  if (!decide (y1.Club = An)) then Option.bind (Hk y1.Club) (fun r3 =>
  j4 ((!decide (y1.Club = An)) && (!r3))) else j4 ((!decide (y1.Club = An)) && true)))) (fun j2 =>
  if (!r1) then j2 ((!r1) || true) else Option.bind (Hk y1.Who) (fun r2 =>
  j2 ((!r1) || (!r2)))))
def Ru (p_l : List Dj) : Option Int :=
  if decide (2000 < (p_l.length : Int)) then
  some 2
  else
  Gx (Option.bind (Sb p_l) (fun r4 =>
  some r4)) (fun j1 =>
  Kg p_l j1 p_l 0)
def Rh (p_t : Jx) (p_l : List Dj) : Option Int :=
  Option.bind (Pj p_t) (fun r1 =>
  if !decide (r1 = 0) then
  some r1
  else
  Option.bind (Ru p_l) (fun r2 =>
  some r2))
def Jm : Dk :=
  (Dk.mk 0 1)
def Mi (j1 : Int → Option Dk) : Nat → Int → Int → Option Dk
  | 0,_,_=>none
  | m1 + 1,x1,x2=>if decide (0 < x1) then
  Chk (!decide (x1 = 0)) (
  Mi j1 m1 (Int.tmod x2 x1) x1)
  else
  j1 x2
def Pk (p_a : Int) (p_b : Int) : Option Dk :=
  Gx (fun (x2 : Int) =>
  Chk (!decide (x2 = 0)) (
  Chk (!decide (x2 = 0)) (
  some (Dk.mk (W (Int.tdiv p_a x2)) (W (Int.tdiv p_b x2)))))) (fun j1 =>
  Mi j1 ((p_a - 0).toNat + 2) p_a p_b)
def Lo (p_t : Jx) (j1 : (List (ByteArray × Int)) → (List Int) → (List Dp) → Option (List Dp)) : List Dj → Nat → (List (ByteArray × Int)) → (List Int) → (List Dp) → Option (List Dp)
  | [],_,x1,x2,x3=>j1 x1 x2 x3
  | y1 :: ys1,i1,x1,x2,x3=>Gx (fun (x4 : List (ByteArray × Int)) (x5 : List Int) (x6 : List Dp) =>
  Lo p_t j1 ys1 (i1 + 1) x4 x5 x6) (fun j2 =>
  if ((decide (y1.Rank = 0)) || (decide (y1.Club = An))) then
  j2 x1 x2 x3
  else
  Gx (fun (x7 : List Int) =>
  Chk (St x3.length) (
  j2 (Gk x1 y1.Club (W ((Ec x1 y1.Club 0) + 1))) x7 (x3 ++ [(Dp.mk y1 Jm)]))) (fun j3 =>
  if ((decide (p_t.Most = 0)) || (decide ((Ec (Gk x1 y1.Club (W ((Ec x1 y1.Club 0) + 1))) y1.Club 0) ≤ p_t.Most))) then
  Chk (St x2.length) (
  j3 (x2 ++ [(x3.length : Int)]))
  else
  j3 x2))
def Km (p_t : Jx) (x2 : List Int) (x8 : List Dp) (x9 : Int) (j5 : Int → Int → Option (List Dp)) : Nat → Int → Int → Option (List Dp)
  | 0,_,_=>none
  | m2 + 1,x10,x11=>Gx (fun (c1 : Bool) =>
  if c1 then
  Gx (fun (x12 : Int) =>
  Km p_t x2 x8 x9 j5 m2 (W (x10 + 1)) x12) (fun j7 =>
  Gx (fun (x13 : Int) =>
  j7 x13) (fun j8 =>
  if decide (x10 < (p_t.Points.length : Int)) then
  Chk (inB x10 p_t.Points.length) (
  j8 (W (x11 + (nth p_t.Points x10))))
  else
  j8 x11))
  else
  j5 x10 x11) (fun j6 =>
  if (decide (x10 < (x2.length : Int))) then Chk (inB x10 x2.length) (
  Chk (inB (nth x2 x10) x8.length) (
  Chk (inB x9 x2.length) (
  Chk (inB (nth x2 x9) x8.length) (
  j6 ((decide (x10 < (x2.length : Int))) && (decide ((((nth x8 (nth x2 x10)).x_).Rank) = (((nth x8 (nth x2 x9)).x_).Rank)))))))) else j6 ((decide (x10 < (x2.length : Int))) && true))
def Kn (x10 : Int) (x9 : Int) (x14 : Int) (x2 : List Int) (j10 : (List Dp) → Option (List Dp)) : Nat → (List Dp) → Int → Option (List Dp)
  | 0,_,_=>none
  | m3 + 1,x15,x16=>if decide (x16 < ((x10.toNat - x9.toNat : Nat) : Int)) then
  Chk (inB x16 (x10.toNat - x9.toNat)) (
  Option.bind (Pk x14 (W (x10 - x9))) (fun r1 =>
  Chk (inB (nth (cut x2 x9 x10) x16) x15.length) (
  Kn x10 x9 x14 x2 j10 m3 (x15.set ((nth (cut x2 x9 x10) x16).toNat) (Dp.mk ((nth x15 (nth (cut x2 x9 x10) x16)).x_) r1)) (W (x16 + 1)))))
  else
  j10 x15
def Jo (x2 : List Int) (p_l : List Dj) (p_t : Jx) (j4 : (List Dp) → Option (List Dp)) : Nat → (List Dp) → Int → Option (List Dp)
  | 0,_,_=>none
  | m1 + 1,x8,x9=>if decide (x9 < (x2.length : Int)) then
  Gx (fun (x10 : Int) (x11 : Int) =>
  Chk (inB 0 p_l.length) (
  Gx (fun (x14 : Int) =>
  Chk (EG x9 x10 x2.length) (
  Gx (fun (x15 : List Dp) =>
  Jo x2 p_l p_t j4 m1 x15 x10) (fun j10 =>
  Kn x10 x9 x14 x2 j10 ((((x10.toNat - x9.toNat : Nat) : Int) - 0).toNat + 2) x8 0))) (fun j9 =>
  if (nth p_l 0).Relay then
  j9 (W (x11 * p_t.Relay))
  else
  j9 x11))) (fun j5 =>
  Km p_t x2 x8 x9 j5 (((x2.length : Int) - x9).toNat + 2) x9 0)
  else
  j4 x8
def Qd (p_t : Jx) (p_l : List Dj) : Option (List Dp) :=
  Gx (fun (x1 : List (ByteArray × Int)) (x2 : List Int) (x3 : List Dp) =>
  Gx (fun (x8 : List Dp) =>
  some x8) (fun j4 =>
  Jo x2 p_l p_t j4 (((x2.length : Int) - 0).toNat + 2) x3 0)) (fun j1 =>
  Lo p_t j1 p_l 0 ([] : List (ByteArray × Int)) ([] : List Int) ([] : List Dp))
def La (p_t : Jx) (j1 : (List Dp) → Option (List Dp)) : List (List Dj) → Nat → (List Dp) → Option (List Dp)
  | [],_,x1=>j1 x1
  | y1 :: ys1,i1,x1=>Option.bind (Qd p_t y1) (fun r3 =>
  Chk (decide (x1.length + r3.length < 1073741824)) (
  La p_t j1 ys1 (i1 + 1) (x1 ++ r3)))
def Nn (p_t : Jx) (p_l : List Dj) : Option (List Dp) :=
  Option.bind (Tq p_l) (fun r1 =>
  Gx (fun (x1 : List Dp) =>
  some x1) (fun j1 =>
  La p_t j1 r1 0 ([] : List Dp)))
def Mu (j1 : (List Dm) → Option ((List Dm) × Int)) : List Dp → Nat → (List Dm) → Option ((List Dm) × Int)
  | [],_,x1=>j1 x1
  | y1 :: ys1,i1,x1=>Chk (decide (y1.x_.Race.size + On.size < 1073741824)) (
  Chk (decide ((y1.x_.Race ++ On).size + y1.x_.Who.size < 1073741824)) (
  Chk (St x1.length) (
  Mu j1 ys1 (i1 + 1) (x1 ++ [(Dm.mk ((y1.x_.Race ++ On) ++ y1.x_.Who) y1.points_)]))))
def Vo (p_t : Jx) (p_l : List Dj) : Option ((List Dm) × Int) :=
  Option.bind (Rh p_t p_l) (fun r1 =>
  if !decide (r1 = 0) then
  some (([] : List Dm),r1)
  else
  Option.bind (Nn p_t p_l) (fun r2 =>
  Gx (fun (x1 : List Dm) =>
  some (x1,0)) (fun j1 =>
  Mu j1 r2 0 ([] : List Dm))))
def Md (p_r : Du) (r1 : (List Ds) × (List (ByteArray × ByteArray)) × Int) (j1 : (List Dj) → Option ((List Je) × Int)) : List Ds → Nat → (List Dj) → Option ((List Je) × Int)
  | [],_,x1=>j1 x1
  | y1 :: ys1,i1,x1=>Chk (St x1.length) (
  Md p_r r1 j1 ys1 (i1 + 1) (x1 ++ [(Dj.mk p_r.Key y1.Who (Ec r1.2.1 y1.Who An) y1.Rank (decide (1 < p_r.Legs)))]))
def Nb (j2 : (List (ByteArray × Dk)) → Option ((List Je) × Int)) : List Dm → Nat → (List (ByteArray × Dk)) → Option ((List Je) × Int)
  | [],_,x2=>j2 x2
  | y2 :: ys2,i2,x2=>Nb j2 ys2 (i2 + 1) (Gk x2 y2.Key y2.Points)
def Me (p_r : Du) (r1 : (List Ds) × (List (ByteArray × ByteArray)) × Int) (x2 : List (ByteArray × Dk)) (j3 : (List Je) → Option ((List Je) × Int)) : List Ds → Nat → (List Je) → Option ((List Je) × Int)
  | [],_,x3=>j3 x3
  | y3 :: ys3,i3,x3=>Chk (decide (p_r.Key.size + On.size < 1073741824)) (
  Chk (decide ((p_r.Key ++ On).size + y3.Who.size < 1073741824)) (
  Gx (fun (x4 : Int) (x5 : Int) =>
  Chk (St x3.length) (
  Me p_r r1 x2 j3 ys3 (i3 + 1) (x3 ++ [(Je.mk y3.Rank y3.Who (Ec r1.2.1 y3.Who An) y3.Time y3.Fault (Dk.mk x4 x5))]))) (fun j4 =>
  if !((Qm x2 ((p_r.Key ++ On) ++ y3.Who)).isSome) then
  j4 0 1
  else
  j4 ((Ec x2 ((p_r.Key ++ On) ++ y3.Who) (Dk.mk 0 0)).Num) ((Ec x2 ((p_r.Key ++ On) ++ y3.Who) (Dk.mk 0 0)).Den))))
def Pf (p_s_p : Jr) (p_s_deeds : List Di) (p_r : Du) : Option ((List Je) × Int) :=
  Option.bind (Xa p_s_p p_s_deeds p_r.Key) (fun r1 =>
  if !decide (r1.2.2 = 0) then
  some (([] : List Je),r1.2.2)
  else
  Gx (fun (x1 : List Dj) =>
  Option.bind (Hh x1) (fun r2 =>
  Option.bind (Vo p_s_p.Table r2) (fun r3 =>
  if !decide (r3.2 = 0) then
  some (([] : List Je),r3.2)
  else
  Gx (fun (x2 : List (ByteArray × Dk)) =>
  Gx (fun (x3 : List Je) =>
  some (x3,0)) (fun j3 =>
  Me p_r r1 x2 j3 r1.1 0 ([] : List Je))) (fun j2 =>
  Nb j2 r3.1 0 ([] : List (ByteArray × Dk)))))) (fun j1 =>
  Md p_r r1 j1 r1.1 0 ([] : List Dj)))
def Xb (p_p : Jr) (p_l : List Di) (p_race : ByteArray) (p_at : Int) : Option ((List Je) × Int) :=
  Option.bind (CY p_p p_l p_race p_at) (fun r1 =>
  if !decide (r1.2.2 = 0) then
  some (([] : List Je),r1.2.2)
  else
  Option.bind (r1.1) (fun r2 =>
  Option.bind (Pf r2.p_ r2.deeds_ r1.2.1) (fun r3 =>
  some (r3.1,r3.2))))
def BP (p_a : Dk) (p_b : Dk) : Option Dk :=
  Option.bind (Pk (W ((W (p_a.Num * p_b.Den)) + (W (p_b.Num * p_a.Den)))) (W (p_a.Den * p_b.Den))) (fun r1 =>
  some r1)
def Mv (j1 : (List (ByteArray × Dk)) → Option (List (ByteArray × Dk))) : List Dj → Nat → (List (ByteArray × Dk)) → Option (List (ByteArray × Dk))
  | [],_,x1=>j1 x1
  | y1 :: ys1,i1,x1=>Gx (fun (x2 : List (ByteArray × Dk)) =>
  Mv j1 ys1 (i1 + 1) x2) (fun j2 =>
  Gx (fun (x3 : List (ByteArray × Dk)) =>
  j2 x3) (fun j3 =>
  if !decide (y1.Club = An) then
  j3 (Gk x1 y1.Club Jm)
  else
  j3 x1))
def Ll (j4 : (List (ByteArray × Dk)) → Option (List (ByteArray × Dk))) : List Dp → Nat → (List (ByteArray × Dk)) → Option (List (ByteArray × Dk))
  | [],_,x4=>j4 x4
  | y2 :: ys2,i2,x4=>Option.bind (BP (Ec x4 y2.x_.Club (Dk.mk 0 0)) y2.points_) (fun r2 =>
  Ll j4 ys2 (i2 + 1) (Gk x4 y2.x_.Club r2))
def Ys (p_t : Jx) (p_l : List Dj) : Option (List (ByteArray × Dk)) :=
  Gx (fun (x1 : List (ByteArray × Dk)) =>
  Option.bind (Nn p_t p_l) (fun r1 =>
  Gx (fun (x4 : List (ByteArray × Dk)) =>
  some x4) (fun j4 =>
  Ll j4 r1 0 x1))) (fun j1 =>
  Mv j1 p_l 0 ([] : List (ByteArray × Dk)))
def Qe (p_a : Dm) (p_b : Dm) : Int :=
  (Hl p_a.Key p_b.Key)
def Ep (p_a : Int) (j2 : (List Dm) → Option (List Dm)) : Nat → (List Dm) → Int → Option (List Dm)
  | 0,_,_=>none
  | m2 + 1,x3,x4=>Gx (fun (x5 : Bool) =>
  if x5 then
  Chk (inB (W (x4 - 1)) x3.length) (
  Chk (inB x4 x3.length) (
  Chk (inB x4 x3.length) (
  Chk (inB (W (x4 - 1)) (x3.set x4.toNat (Dm.mk ((nth x3 (W (x4 - 1))).Key) ((nth x3 (W (x4 - 1))).Points))).length) (
  Ep p_a j2 m2 ((x3.set x4.toNat (Dm.mk ((nth x3 (W (x4 - 1))).Key) ((nth x3 (W (x4 - 1))).Points))).set ((W (x4 - 1)).toNat) (Dm.mk ((nth x3 x4).Key) ((nth x3 x4).Points))) (W (x4 - 1))))))
  else
  j2 x3) (fun j3 =>
  if decide (p_a < x4) then
  Chk (inB x4 x3.length) (
  Chk (inB (W (x4 - 1)) x3.length) (
  j3 (decide ((Qe (Dm.mk ((nth x3 x4).Key) ((nth x3 x4).Points)) (Dm.mk ((nth x3 (W (x4 - 1))).Key) ((nth x3 (W (x4 - 1))).Points))) < 0))))
  else
  j3 false)
def Fq (p_b : Int) (p_a : Int) (j1 : (List Dm) → Option (List Dm)) : Nat → (List Dm) → Int → Option (List Dm)
  | 0,_,_=>none
  | m1 + 1,x1,x2=>if decide (x2 < p_b) then
  Gx (fun (x3 : List Dm) =>
  Fq p_b p_a j1 m1 x3 (W (x2 + 1))) (fun j2 =>
  Ep p_a j2 ((x2 - p_a).toNat + 2) x1 x2)
  else
  j1 x1
def Iq (p_data : List Dm) (p_a : Int) (p_b : Int) : Option (List Dm) :=
  Gx (fun (x1 : List Dm) =>
  some x1) (fun j1 =>
  Fq p_b p_a j1 ((p_b - (W (p_a + 1))).toNat + 2) p_data (W (p_a + 1)))
def Gy (p_data : List Dm) : Nat → Int → Int → Int → Bool → Option (List Dm)
  | 0,_,_,_,_=>none
  | _ + 1,x1,x2,x3,x4=>if decide ((W (x2 - x1)) ≤ 12) then
  Option.bind (Iq p_data x1 x2) (fun r1 =>
  some r1)
  else
  if decide (x3 = 0) then
  none
  else
  if !x4 then
  none
  else
  none
def Kr (p_data : List Dm) (p_a : Int) (p_b : Int) (p_limit : Int) : Option (List Dm) :=
  Gy p_data 4611686018427387904 p_a p_b p_limit true
def Ko (p_x : List Dm) : Option (List Dm) :=
  Option.bind (Zg (IntKind.wrap .u64 (p_x.length : Int))) (fun r1 =>
  Option.bind (Kr p_x 0 (p_x.length : Int) r1) (fun r2 =>
  some r2))
def Oe (j1 : (List Dm) → Option (List Dm)) : List (ByteArray × Dk) → (List Dm) → Option (List Dm)
  | [],x1=>j1 x1
  | y1 :: ys1,x1=>Option.bind (α:=(List Dm)) (
  Chk (St x1.length) (
  some (x1 ++ [(Dm.mk y1.1 y1.2)]))) (fun s=>Oe j1 ys1 s)
def Yi (p_m : List (ByteArray × Dk)) : Option (List Dm) :=
  Gx (fun (x1 : List Dm) =>
  Option.bind (Ko x1) (fun r1 =>
  some r1)) (fun j1 =>
  OO p_m (fun p=>Oe j1 p ([] : List Dm)))
def Xc (p_t : Jx) (p_l : List Dj) : Option ((List Dm) × Int) :=
  Option.bind (Rh p_t p_l) (fun r1 =>
  if !decide (r1 = 0) then
  some (([] : List Dm),r1)
  else
  Option.bind (Ys p_t p_l) (fun r2 =>
  Option.bind (Yi r2) (fun r3 =>
  some (r3,0))))
def Pz (p_s_p : Jr) (p_s_deeds : List Di) (j1 : Option Int) : List Du → Nat → Option Int
  | [],_=>j1
  | y1 :: ys1,i1=>Option.bind (Xq p_s_p p_s_deeds y1.Key) (fun r1 =>
  if !decide (r1.2 = 0) then
  some r1.2
  else
  Pz p_s_p p_s_deeds j1 ys1 (i1 + 1))
def AP (p_s_p : Jr) (p_s_deeds : List Di) : Option Int :=
  Gx (some 0) (fun j1 =>
  Pz p_s_p p_s_deeds j1 p_s_p.Races 0)
def AQ (p_a : Dk) (p_b : Dk) : Option Dk :=
  Option.bind (Pk (W ((W (p_a.Num * p_b.Den)) + (W (p_b.Num * p_a.Den)))) (W (p_a.Den * p_b.Den))) (fun r1 =>
  some r1)
def Qf (p_a : Dm) (p_b : Dm) : Int :=
  (Hl p_a.Key p_b.Key)
def Er (p_a : Int) (j2 : (List Dm) → Option (List Dm)) : Nat → (List Dm) → Int → Option (List Dm)
  | 0,_,_=>none
  | m2 + 1,x3,x4=>Gx (fun (x5 : Bool) =>
  if x5 then
  Chk (inB (W (x4 - 1)) x3.length) (
  Chk (inB x4 x3.length) (
  Chk (inB x4 x3.length) (
  Chk (inB (W (x4 - 1)) (x3.set x4.toNat (Dm.mk ((nth x3 (W (x4 - 1))).Key) ((nth x3 (W (x4 - 1))).Points))).length) (
  Er p_a j2 m2 ((x3.set x4.toNat (Dm.mk ((nth x3 (W (x4 - 1))).Key) ((nth x3 (W (x4 - 1))).Points))).set ((W (x4 - 1)).toNat) (Dm.mk ((nth x3 x4).Key) ((nth x3 x4).Points))) (W (x4 - 1))))))
  else
  j2 x3) (fun j3 =>
  if decide (p_a < x4) then
  Chk (inB x4 x3.length) (
  Chk (inB (W (x4 - 1)) x3.length) (
  j3 (decide ((Qf (Dm.mk ((nth x3 x4).Key) ((nth x3 x4).Points)) (Dm.mk ((nth x3 (W (x4 - 1))).Key) ((nth x3 (W (x4 - 1))).Points))) < 0))))
  else
  j3 false)
def Ft (p_b : Int) (p_a : Int) (j1 : (List Dm) → Option (List Dm)) : Nat → (List Dm) → Int → Option (List Dm)
  | 0,_,_=>none
  | m1 + 1,x1,x2=>if decide (x2 < p_b) then
  Gx (fun (x3 : List Dm) =>
  Ft p_b p_a j1 m1 x3 (W (x2 + 1))) (fun j2 =>
  Er p_a j2 ((x2 - p_a).toNat + 2) x1 x2)
  else
  j1 x1
def Ir (p_data : List Dm) (p_a : Int) (p_b : Int) : Option (List Dm) :=
  Gx (fun (x1 : List Dm) =>
  some x1) (fun j1 =>
  Ft p_b p_a j1 ((p_b - (W (p_a + 1))).toNat + 2) p_data (W (p_a + 1)))
def Gz (p_data : List Dm) : Nat → Int → Int → Int → Bool → Option (List Dm)
  | 0,_,_,_,_=>none
  | _ + 1,x1,x2,x3,x4=>if decide ((W (x2 - x1)) ≤ 12) then
  Option.bind (Ir p_data x1 x2) (fun r1 =>
  some r1)
  else
  if decide (x3 = 0) then
  none
  else
  if !x4 then
  none
  else
  none
def Ks (p_data : List Dm) (p_a : Int) (p_b : Int) (p_limit : Int) : Option (List Dm) :=
  Gz p_data 4611686018427387904 p_a p_b p_limit true
def Jj (p_x : List Dm) : Option (List Dm) :=
  Option.bind (Zg (IntKind.wrap .u64 (p_x.length : Int))) (fun r1 =>
  Option.bind (Ks p_x 0 (p_x.length : Int) r1) (fun r2 =>
  some r2))
def Og (j2 : (List (ByteArray × Dk)) → Option ((List Dm) × Int)) : List Di → Nat → (List (ByteArray × Dk)) → Option ((List Dm) × Int)
  | [],_,x2=>j2 x2
  | y2 :: ys2,i2,x2=>Gx (fun (x3 : List (ByteArray × Dk)) =>
  Og j2 ys2 (i2 + 1) x3) (fun j3 =>
  Gx (fun (x4 : List (ByteArray × Dk)) =>
  j3 x4) (fun j4 =>
  if ((!decide (y2.Club = An)) && (!((Qm x2 y2.Club).isSome))) then
  j4 (Gk x2 y2.Club (Dk.mk 0 1))
  else
  j4 x2))
def Np (j5 : (List (ByteArray × Dk)) → Option ((List Dm) × Int)) : List Je → Nat → (List (ByteArray × Dk)) → Option ((List Dm) × Int)
  | [],_,x5=>j5 x5
  | y3 :: ys3,i3,x5=>Gx (fun (x6 : List (ByteArray × Dk)) =>
  Np j5 ys3 (i3 + 1) x6) (fun j6 =>
  Gx (fun (x7 : List (ByteArray × Dk)) =>
  j6 x7) (fun j7 =>
  if !decide (y3.Club = An) then
  Option.bind (AQ (Ec x5 y3.Club (Dk.mk 0 0)) y3.Points) (fun r4 =>
  j7 (Gk x5 y3.Club r4))
  else
  j7 x5))
def Mw (p_s_p : Jr) (p_s_deeds : List Di) (j1 : (List (ByteArray × Dk)) → Option ((List Dm) × Int)) : List Du → Nat → (List (ByteArray × Dk)) → Option ((List Dm) × Int)
  | [],_,x1=>j1 x1
  | y1 :: ys1,i1,x1=>Option.bind (Rc p_s_p p_s_deeds y1.Key) (fun r2 =>
  Gx (fun (x2 : List (ByteArray × Dk)) =>
  Option.bind (Pf p_s_p p_s_deeds y1) (fun r3 =>
  if !decide (r3.2 = 0) then
  some (([] : List Dm),r3.2)
  else
  Gx (fun (x5 : List (ByteArray × Dk)) =>
  Mw p_s_p p_s_deeds j1 ys1 (i1 + 1) x5) (fun j5 =>
  Np j5 r3.1 0 x2))) (fun j2 =>
  Og j2 r2 0 x1))
def Nq (j8 : (List Dm) → Option ((List Dm) × Int)) : List (ByteArray × Dk) → (List Dm) → Option ((List Dm) × Int)
  | [],x8=>j8 x8
  | y4 :: ys4,x8=>Option.bind (α:=(List Dm)) (
  Chk (St x8.length) (
  some (x8 ++ [(Dm.mk y4.1 y4.2)]))) (fun s=>Nq j8 ys4 s)
def Uy (p_s_p : Jr) (p_s_deeds : List Di) : Option ((List Dm) × Int) :=
  Option.bind (AP p_s_p p_s_deeds) (fun r1 =>
  if !decide (r1 = 0) then
  some (([] : List Dm),r1)
  else
  Gx (fun (x1 : List (ByteArray × Dk)) =>
  Gx (fun (x8 : List Dm) =>
  Option.bind (Jj x8) (fun r5 =>
  some (r5,0))) (fun j8 =>
  OO x1 (fun p=>Nq j8 p ([] : List Dm)))) (fun j1 =>
  Mw p_s_p p_s_deeds j1 p_s_p.Races 0 ([] : List (ByteArray × Dk))))
def Zh (p_p : Jr) (p_l : List Di) (p_at : Int) : Option ((List Dm) × Int) :=
  Option.bind (Za p_p p_l ([p_at] : List Int)) (fun r1 =>
  if !decide (r1.2 = 0) then
  some (([] : List Dm),r1.2)
  else
  Option.bind (r1.1) (fun r2 =>
  Option.bind (Uy r2.p_ r2.deeds_) (fun r3 =>
  some (r3.1,r3.2))))
def Ny (p_z : Dm) (p_a1 : Dm) : Bool :=
  decide (p_z.Key = p_a1.Key)
def Ei (p_f_0 : Dm) (j1 : Int) : List Dm → Nat → Int
  | [],_=>j1
  | y1 :: ys1,i1=>if (Ny y1 p_f_0) then
  (i1 : Int)
  else
  Ei p_f_0 j1 ys1 (i1 + 1)
def Dx (p_s : List Dm) (p_f_0 : Dm) : Int :=
  Gx ((-1)) (fun j1 =>
  Ei p_f_0 j1 p_s 0)
def Nz (p_z : Dm) (p_a1 : Dm) : Bool :=
  decide (p_z.Key = p_a1.Key)
def En (p_f_0 : Dm) (j1 : Int) : List Dm → Nat → Int
  | [],_=>j1
  | y1 :: ys1,i1=>if (Nz y1 p_f_0) then
  (i1 : Int)
  else
  En p_f_0 j1 ys1 (i1 + 1)
def Ja (p_s : List Dm) (p_f_0 : Dm) : Int :=
  Gx ((-1)) (fun j1 =>
  En p_f_0 j1 p_s 0)
def Hr (p_s : List Dm) (p_f_0 : Dm) : Bool :=
  decide (0 ≤ (Ja p_s p_f_0))
def Yt (p_year : Int) : Bool :=
  ((decide ((Int.tmod p_year 4) = 0)) && ((!decide ((Int.tmod p_year 100) = 0)) || (decide ((Int.tmod p_year 400) = 0))))
def Ol (p_year : Int) (p_month : Int) : Int :=
  if decide (p_month = 2) then
  if (Yt p_year) then
  29
  else
  28
  else
  Gx (fun (x1 : Bool) =>
  if x1 then
  30
  else
  31) (fun j1 =>
  if decide (p_month = 4) then
  j1 (decide (p_month = 4))
  else
  Gx (fun (x2 : Bool) =>
  j1 x2) (fun j2 =>
  if decide (p_month = 6) then
  j2 (decide (p_month = 6))
  else
  Gx (fun (x3 : Bool) =>
  j2 x3) (fun j3 =>
  if decide (p_month = 9) then
  j3 (decide (p_month = 9))
  else
  j3 (decide (p_month = 11)))))
def Ri (p_year : Int) : Int :=
  if (Yt p_year) then
  366
  else
  365
def AH (p_n : Int) : Bool :=
  (Dt p_n (-40000) 4000)
def Ox (p_d : Nj) (j2 : Int → Option (Int × Int)) : Nat → Int → Int → Option (Int × Int)
  | 0,_,_=>none
  | m1 + 1,x2,x3=>if decide (x3 < p_d.Month) then
  Ox p_d j2 m1 (W (x2 + (Ol p_d.Year x3))) (W (x3 + 1))
  else
  j2 x2
def Oy (p_d : Nj) (j3 : Int → Option (Int × Int)) : Nat → Int → Int → Option (Int × Int)
  | 0,_,_=>none
  | m2 + 1,x4,x5=>if decide (x5 < p_d.Year) then
  Oy p_d j3 m2 (W (x4 + (Ri x5))) (W (x5 + 1))
  else
  j3 x4
def Oz (j4 : Int → Option (Int × Int)) : Nat → Int → Int → Option (Int × Int)
  | 0,_,_=>none
  | m3 + 1,x6,x7=>if decide (x7 < 2024) then
  Oz j4 m3 (W (x6 - (Ri x7))) (W (x7 + 1))
  else
  j4 x6
def AI (p_d : Nj) : Option (Int × Int) :=
  Gx (fun (x1 : Bool) =>
  if x1 then
  some (0,1)
  else
  Gx (fun (x2 : Int) =>
  Gx (fun (x4 : Int) =>
  Gx (fun (x6 : Int) =>
  if !(AH x6) then
  some (0,1)
  else
  some (x6,0)) (fun j4 =>
  Oz j4 ((2024 - p_d.Year).toNat + 2) x4 p_d.Year)) (fun j3 =>
  Oy p_d j3 ((p_d.Year - 2024).toNat + 2) x2 2024)) (fun j2 =>
  Ox p_d j2 ((p_d.Month - 1).toNat + 2) (W (p_d.Day - 1)) 1)) (fun j1 =>
  if !(Dt p_d.Year 1900 2100) then
  if true then
  j1 true
  else
  j1 (!(Dt p_d.Day 1 (Ol p_d.Year p_d.Month)))
  else
  if !(Dt p_d.Month 1 12) then
  j1 true
  else
  j1 (!(Dt p_d.Day 1 (Ol p_d.Year p_d.Month))))
def Lx (j1 : (List (ByteArray × Bool)) → Option Int) : List Om → Nat → (List (ByteArray × Bool)) → Option Int
  | [],_,x1=>j1 x1
  | y1 :: ys1,i1,x1=>Option.bind (Hk y1.Key) (fun r1 =>
  if !r1 then
  some 5
  else
  if Ec x1 y1.Key false then
  some 6
  else
  if ((((!(Dt y1.Heats 1 60)) || (!(Dt y1.Long 1 3600000))) || (!(Dt y1.Gap 0 3600000))) || (!(Dt y1.Break 0 3600000))) then
  some 1
  else
  Lx j1 ys1 (i1 + 1) (Gk x1 y1.Key true))
def Wm (p_l : List Om) : Option Int :=
  if decide (100 < (p_l.length : Int)) then
  some 2
  else
  Gx (fun (x1 : List (ByteArray × Bool)) =>
  some 0) (fun j1 =>
  Lx j1 p_l 0 ([] : List (ByteArray × Bool)))
def Mk (y1 : Om) (j2 : (List Ln) → Int → Option (List Ln)) : Nat → (List Ln) → Int → Int → Option (List Ln)
  | 0,_,_,_=>none
  | m1 + 1,x3,x4,x5=>if decide (x5 ≤ y1.Heats) then
  Gx (fun (x6 : List Ln) (x7 : Int) =>
  Mk y1 j2 m1 x6 x7 (W (x5 + 1))) (fun j3 =>
  Chk (St x3.length) (
  Gx (fun (x8 : Int) =>
  j3 (x3 ++ [(Ln.mk y1.Key x5 (Vj.mk x4 (W (x4 + y1.Long))))]) x8) (fun j4 =>
  if decide (x5 < y1.Heats) then
  j4 (W ((W (x4 + y1.Long)) + y1.Gap))
  else
  j4 (W (x4 + y1.Long)))))
  else
  j2 x3 x4
def Ml (j1 : (List Ln) → Option (List Ln)) : List Om → Nat → (List Ln) → Int → Option (List Ln)
  | [],_,x1,_=>j1 x1
  | y1 :: ys1,i1,x1,x2=>Gx (fun (x3 : List Ln) (x4 : Int) =>
  Ml j1 ys1 (i1 + 1) x3 (W (x4 + y1.Break))) (fun j2 =>
  Mk y1 j2 ((y1.Heats - 1).toNat + 2) x1 x2 1)
def Xd (p_l : List Om) (p_from : Int) : Option (List Ln) :=
  Gx (fun (x1 : List Ln) =>
  some x1) (fun j1 =>
  Ml j1 p_l 0 ([] : List Ln) p_from)
def Zy (p_l : List Ln) (p_from : Int) : Option Int :=
  if decide ((p_l.length : Int) = 0) then
  some p_from
  else
  Chk (inB (W ((p_l.length : Int) - 1)) p_l.length) (
  some (((nth p_l (W ((p_l.length : Int) - 1))).Time).To))
def AJ (p_l : List Om) (p_from : Int) : Option ((List Ln) × Int) :=
  if !(Jb p_from) then
  some (([] : List Ln),1)
  else
  Option.bind (Xd p_l p_from) (fun r1 =>
  Option.bind (Zy r1 p_from) (fun r2 =>
  if decide (345686400000 < r2) then
  some (([] : List Ln),1)
  else
  some (r1,0)))
def Xe (p_l : List Om) (p_from : Int) : Option ((List Ln) × Int) :=
  Option.bind (Wm p_l) (fun r1 =>
  if !decide (r1 = 0) then
  some (([] : List Ln),r1)
  else
  Option.bind (AJ p_l p_from) (fun r2 =>
  some (r2.1,r2.2)))
def BQ (p_l : List Om) (p_from : Int) : Option (Int × Int) :=
  Option.bind (Xe p_l p_from) (fun r1 =>
  if !decide (r1.2 = 0) then
  some (0,r1.2)
  else
  Option.bind (Zy r1.1 p_from) (fun r2 =>
  some (r2,0)))
def Yb (p_n : Int) : Bool :=
  (Dt p_n 1 360000)
def Nd (p_l : List Sr) (j1 : Option Int) : List Sr → Nat → Option Int
  | [],_=>j1
  | y1 :: ys1,i1=>Option.bind (Hk y1.Race) (fun r1 =>
  if !r1 then
  some 5
  else
  Gx (fun (c1 : Bool) =>
  if c1 then
  some 7
  else
  if !(Yb y1.Time) then
  some 1
  else
  Nd p_l j1 ys1 (i1 + 1)) (fun j2 =>
  if (decide (0 < (i1 : Int))) then Chk (inB (W ((i1 : Int) - 1)) p_l.length) (
  j2 ((decide (0 < (i1 : Int))) && (EQ y1.Race ((nth p_l (W ((i1 : Int) - 1))).Race) || decide (y1.Race = ((nth p_l (W ((i1 : Int) - 1))).Race))))) else j2 ((decide (0 < (i1 : Int))) && true)))
def Xs (p_l : List Sr) : Option Int :=
  if decide (500 < (p_l.length : Int)) then
  some 2
  else
  Gx (some 0) (fun j1 =>
  Nd p_l j1 p_l 0)
def Pa (p_race : ByteArray) (j1 : Int) : List Sr → Nat → Int
  | [],_=>j1
  | y1 :: ys1,i1=>if decide (y1.Race = p_race) then
  y1.Time
  else
  Pa p_race j1 ys1 (i1 + 1)
def Ui (p_l : List Sr) (p_race : ByteArray) : Int :=
  Gx (0) (fun j1 =>
  Pa p_race j1 p_l 0)
def Ts (p_x : Int) (p_y : Int) : (Int × Int) :=
  (IntKind.wrap .u64 ((IntKind.wrap .u64 ((IntKind.wrap .u64 ((Hc .u64 p_x 32) * (Hc .u64 p_y 32))) + (Hc .u64 (IntKind.wrap .u64 ((IntKind.wrap .u64 ((Hc .u64 p_x 32) * (Oq .u64 p_y 4294967295))) + (Hc .u64 (IntKind.wrap .u64 ((Oq .u64 p_x 4294967295) * (Oq .u64 p_y 4294967295))) 32))) 32))) + (Hc .u64 (IntKind.wrap .u64 ((Oq .u64 (IntKind.wrap .u64 ((IntKind.wrap .u64 ((Hc .u64 p_x 32) * (Oq .u64 p_y 4294967295))) + (Hc .u64 (IntKind.wrap .u64 ((Oq .u64 p_x 4294967295) * (Oq .u64 p_y 4294967295))) 32))) 4294967295) + (IntKind.wrap .u64 ((Oq .u64 p_x 4294967295) * (Hc .u64 p_y 32))))) 32)),IntKind.wrap .u64 (p_x * p_y))
def Vz (p_x : Int) : Option Int :=
  Option.bind (BN p_x) (fun r1 =>
  some (W (64 - r1)))
def Rd (p_lo : Int) (r1 : Int) (p_y : Int) (j1 : Int → Option (Int × Int)) : Nat → Int → Int → Option (Int × Int)
  | 0,_,_=>none
  | m1 + 1,x1,x2=>if ((decide (4294967296 ≤ x1)) || (decide ((IntKind.wrap .u64 ((IntKind.wrap .u64 (4294967296 * x2)) + (Hc .u64 (Fw .u64 p_lo (IntKind.wrap .u64 r1)) 32))) < (IntKind.wrap .u64 (x1 * (Oq .u64 (Fw .u64 p_y (IntKind.wrap .u64 r1)) 4294967295)))))) then
  if decide (4294967296 ≤ (IntKind.wrap .u64 (x2 + (Hc .u64 (Fw .u64 p_y (IntKind.wrap .u64 r1)) 32)))) then
  j1 (IntKind.wrap .u64 (x1 - 1))
  else
  Rd p_lo r1 p_y j1 m1 (IntKind.wrap .u64 (x1 - 1)) (IntKind.wrap .u64 (x2 + (Hc .u64 (Fw .u64 p_y (IntKind.wrap .u64 r1)) 32)))
  else
  j1 x1
def Re (p_lo : Int) (r1 : Int) (p_y : Int) (j2 : Int → Option (Int × Int)) : Nat → Int → Int → Option (Int × Int)
  | 0,_,_=>none
  | m2 + 1,x3,x4=>if ((decide (4294967296 ≤ x4)) || (decide ((IntKind.wrap .u64 ((IntKind.wrap .u64 (4294967296 * x3)) + (Oq .u64 (Fw .u64 p_lo (IntKind.wrap .u64 r1)) 4294967295))) < (IntKind.wrap .u64 (x4 * (Oq .u64 (Fw .u64 p_y (IntKind.wrap .u64 r1)) 4294967295)))))) then
  if decide (4294967296 ≤ (IntKind.wrap .u64 (x3 + (Hc .u64 (Fw .u64 p_y (IntKind.wrap .u64 r1)) 32)))) then
  j2 (IntKind.wrap .u64 (x4 - 1))
  else
  Re p_lo r1 p_y j2 m2 (IntKind.wrap .u64 (x3 + (Hc .u64 (Fw .u64 p_y (IntKind.wrap .u64 r1)) 32))) (IntKind.wrap .u64 (x4 - 1))
  else
  j2 x4
def FC (p_hi : Int) (p_lo : Int) (p_y : Int) : Option (Int × Int) :=
  if decide (p_y = 0) then
  none
  else
  if decide (p_y ≤ p_hi) then
  none
  else
  if decide (p_hi = 0) then
  Chk (!decide (p_y = 0)) (
  Chk (!decide (p_y = 0)) (
  some (IntKind.wrap .u64 (Int.tdiv p_lo p_y),Int.tmod p_lo p_y)))
  else
  Option.bind (Vz p_y) (fun r1 =>
  Chk (decide (0 ≤ (IntKind.wrap .u64 r1))) (
  Chk (decide (0 ≤ (IntKind.wrap .u64 r1))) (
  Chk (decide (0 ≤ (IntKind.wrap .u64 (64 - (IntKind.wrap .u64 r1))))) (
  Chk (decide (0 ≤ (IntKind.wrap .u64 r1))) (
  Chk (!decide ((Hc .u64 (Fw .u64 p_y (IntKind.wrap .u64 r1)) 32) = 0)) (
  Gx (fun (x1 : Int) =>
  Chk (!decide ((Hc .u64 (Fw .u64 p_y (IntKind.wrap .u64 r1)) 32) = 0)) (
  Gx (fun (x4 : Int) =>
  Chk (decide (0 ≤ (IntKind.wrap .u64 r1))) (
  some (IntKind.wrap .u64 ((IntKind.wrap .u64 (x1 * 4294967296)) + x4),Hc .u64 (IntKind.wrap .u64 ((IntKind.wrap .u64 ((IntKind.wrap .u64 ((IntKind.wrap .u64 ((IntKind.wrap .u64 ((IntKind.wrap .u64 ((Tw .u64 (Fw .u64 p_hi (IntKind.wrap .u64 r1)) (Hc .u64 p_lo (IntKind.wrap .u64 (64 - (IntKind.wrap .u64 r1))))) * 4294967296)) + (Hc .u64 (Fw .u64 p_lo (IntKind.wrap .u64 r1)) 32))) - (IntKind.wrap .u64 (x1 * (Fw .u64 p_y (IntKind.wrap .u64 r1)))))) * 4294967296)) + (Oq .u64 (Fw .u64 p_lo (IntKind.wrap .u64 r1)) 4294967295))) - (IntKind.wrap .u64 (x4 * (Fw .u64 p_y (IntKind.wrap .u64 r1)))))) (IntKind.wrap .u64 r1)))) (fun j2 =>
  Re p_lo r1 p_y j2 (((IntKind.wrap .u64 (Int.tdiv (IntKind.wrap .u64 ((IntKind.wrap .u64 ((IntKind.wrap .u64 ((Tw .u64 (Fw .u64 p_hi (IntKind.wrap .u64 r1)) (Hc .u64 p_lo (IntKind.wrap .u64 (64 - (IntKind.wrap .u64 r1))))) * 4294967296)) + (Hc .u64 (Fw .u64 p_lo (IntKind.wrap .u64 r1)) 32))) - (IntKind.wrap .u64 (x1 * (Fw .u64 p_y (IntKind.wrap .u64 r1)))))) (Hc .u64 (Fw .u64 p_y (IntKind.wrap .u64 r1)) 32))) - 4294967296).toNat + 2) (IntKind.wrap .u64 ((IntKind.wrap .u64 ((IntKind.wrap .u64 ((IntKind.wrap .u64 ((Tw .u64 (Fw .u64 p_hi (IntKind.wrap .u64 r1)) (Hc .u64 p_lo (IntKind.wrap .u64 (64 - (IntKind.wrap .u64 r1))))) * 4294967296)) + (Hc .u64 (Fw .u64 p_lo (IntKind.wrap .u64 r1)) 32))) - (IntKind.wrap .u64 (x1 * (Fw .u64 p_y (IntKind.wrap .u64 r1)))))) - (IntKind.wrap .u64 ((IntKind.wrap .u64 (Int.tdiv (IntKind.wrap .u64 ((IntKind.wrap .u64 ((IntKind.wrap .u64 ((Tw .u64 (Fw .u64 p_hi (IntKind.wrap .u64 r1)) (Hc .u64 p_lo (IntKind.wrap .u64 (64 - (IntKind.wrap .u64 r1))))) * 4294967296)) + (Hc .u64 (Fw .u64 p_lo (IntKind.wrap .u64 r1)) 32))) - (IntKind.wrap .u64 (x1 * (Fw .u64 p_y (IntKind.wrap .u64 r1)))))) (Hc .u64 (Fw .u64 p_y (IntKind.wrap .u64 r1)) 32))) * (Hc .u64 (Fw .u64 p_y (IntKind.wrap .u64 r1)) 32))))) (IntKind.wrap .u64 (Int.tdiv (IntKind.wrap .u64 ((IntKind.wrap .u64 ((IntKind.wrap .u64 ((Tw .u64 (Fw .u64 p_hi (IntKind.wrap .u64 r1)) (Hc .u64 p_lo (IntKind.wrap .u64 (64 - (IntKind.wrap .u64 r1))))) * 4294967296)) + (Hc .u64 (Fw .u64 p_lo (IntKind.wrap .u64 r1)) 32))) - (IntKind.wrap .u64 (x1 * (Fw .u64 p_y (IntKind.wrap .u64 r1)))))) (Hc .u64 (Fw .u64 p_y (IntKind.wrap .u64 r1)) 32)))))) (fun j1 =>
  Rd p_lo r1 p_y j1 (((IntKind.wrap .u64 (Int.tdiv (Tw .u64 (Fw .u64 p_hi (IntKind.wrap .u64 r1)) (Hc .u64 p_lo (IntKind.wrap .u64 (64 - (IntKind.wrap .u64 r1))))) (Hc .u64 (Fw .u64 p_y (IntKind.wrap .u64 r1)) 32))) - 4294967296).toNat + 2) (IntKind.wrap .u64 (Int.tdiv (Tw .u64 (Fw .u64 p_hi (IntKind.wrap .u64 r1)) (Hc .u64 p_lo (IntKind.wrap .u64 (64 - (IntKind.wrap .u64 r1))))) (Hc .u64 (Fw .u64 p_y (IntKind.wrap .u64 r1)) 32))) (IntKind.wrap .u64 ((Tw .u64 (Fw .u64 p_hi (IntKind.wrap .u64 r1)) (Hc .u64 p_lo (IntKind.wrap .u64 (64 - (IntKind.wrap .u64 r1))))) - (IntKind.wrap .u64 ((IntKind.wrap .u64 (Int.tdiv (Tw .u64 (Fw .u64 p_hi (IntKind.wrap .u64 r1)) (Hc .u64 p_lo (IntKind.wrap .u64 (64 - (IntKind.wrap .u64 r1))))) (Hc .u64 (Fw .u64 p_y (IntKind.wrap .u64 r1)) 32))) * (Hc .u64 (Fw .u64 p_y (IntKind.wrap .u64 r1)) 32))))))))))))
def AK (p_base : Int) (p_time : Int) : Option Int :=
  if decide ((IntKind.wrap .u64 ((IntKind.wrap .u64 ((IntKind.wrap .u64 p_time) * (IntKind.wrap .u64 p_time))) * (IntKind.wrap .u64 p_time))) ≤ ((Ts (IntKind.wrap .u64 ((IntKind.wrap .u64 ((IntKind.wrap .u64 p_base) * (IntKind.wrap .u64 p_base))) * (IntKind.wrap .u64 p_base))) 1000).1)) then
  some 1000000000
  else
  Option.bind (FC ((Ts (IntKind.wrap .u64 ((IntKind.wrap .u64 ((IntKind.wrap .u64 p_base) * (IntKind.wrap .u64 p_base))) * (IntKind.wrap .u64 p_base))) 1000).1) ((Ts (IntKind.wrap .u64 ((IntKind.wrap .u64 ((IntKind.wrap .u64 p_base) * (IntKind.wrap .u64 p_base))) * (IntKind.wrap .u64 p_base))) 1000).2) (IntKind.wrap .u64 ((IntKind.wrap .u64 ((IntKind.wrap .u64 p_time) * (IntKind.wrap .u64 p_time))) * (IntKind.wrap .u64 p_time)))) (fun r1 =>
  some (W (imin r1.1 1000000000)))
def AL (p_l : List Sr) (p_race : ByteArray) (p_time : Int) : Option (Int × Int) :=
  Option.bind (Xs p_l) (fun r1 =>
  if !decide (r1 = 0) then
  some (0,r1)
  else
  if decide ((Ui p_l p_race) = 0) then
  some (0,8)
  else
  if !(Yb p_time) then
  some (0,1)
  else
  Option.bind (AK (Ui p_l p_race) p_time) (fun r2 =>
  some (r2,0)))
def Vp : Option Bool :=
  Option.bind (AI (Nj.mk 2024 3 1)) (fun r1 =>
  Option.bind (BQ [(Om.mk k_a 2 10 5 0)] 0) (fun r2 =>
  Option.bind (AL [(Sr.mk k_r 3000)] k_r 6000) (fun r3 =>
  some ((((((decide (r1.2 = 0)) && (decide (r2.2 = 0))) && (decide (r3.2 = 0))) && (decide (r1.1 = 60))) && (decide (r2.1 = 25))) && (decide (r3.1 = 125))))))
def Hn (y1 : Du) (j2 : (List Dj) → Option Bool) : List Je → Nat → (List Dj) → Option Bool
  | [],_,x2=>j2 x2
  | y2 :: ys2,i2,x2=>Chk (St x2.length) (
  Hn y1 j2 ys2 (i2 + 1) (x2 ++ [(Dj.mk y1.Key y2.Who y2.Club y2.Rank (decide (1 < y1.Legs)))]))
def Ho (r1 : Jr × Int) (r3 : (List Di) × Int) (j1 : (List Dj) → Option Bool) : List Du → Nat → (List Dj) → Option Bool
  | [],_,x1=>j1 x1
  | y1 :: ys1,i1,x1=>Option.bind (Xb r1.1 r3.1 y1.Key 60) (fun r6 =>
  if !decide (r6.2 = 0) then
  some false
  else
  Gx (fun (x2 : List Dj) =>
  Ho r1 r3 j1 ys1 (i1 + 1) x2) (fun j2 =>
  Hn y1 j2 r6.1 0 x1))
def Hv (r7 : (List Dm) × Int) (j3 : Option Bool) : List Dm → Nat → Option Bool
  | [],_=>j3
  | y3 :: ys3,i3=>Gx (fun (c1 : Bool) =>
  if (c1 || ((decide ((Dx r7.1 y3) < 0)) && (!decide (y3.Points.Num = 0)))) then
  some false
  else
  Hv r7 j3 ys3 (i3 + 1)) (fun j4 =>
  if (decide (0 ≤ (Dx r7.1 y3))) then Chk (inB (Dx r7.1 y3) r7.1.length) (
  j4 ((decide (0 ≤ (Dx r7.1 y3))) && (!decide (((nth r7.1 (Dx r7.1 y3)).Points) = y3.Points)))) else j4 ((decide (0 ≤ (Dx r7.1 y3))) && true))
def Hw (r8 : (List Dm) × Int) (j5 : Option Bool) : List Dm → Nat → Option Bool
  | [],_=>j5
  | y4 :: ys4,i4=>if !(Hr r8.1 y4) then
  some false
  else
  Hw r8 j5 ys4 (i4 + 1)
def Pc (p_l : List Int) : Option Bool :=
  Option.bind (Td p_l 0) (fun r1 =>
  Option.bind (Ok p_l r1.2 4 16) (fun r2 =>
  Option.bind (Sf p_l r2.2 r2.1) (fun r3 =>
  Option.bind (Uo r1.1.Races) (fun r4 =>
  Option.bind (Ie r4) (fun r5 =>
  Gx (fun (x1 : List Dj) =>
  Option.bind (Xc r1.1.Table x1) (fun r7 =>
  Option.bind (Zh r1.1 r3.1 60) (fun r8 =>
  if ((!decide (r7.2 = 0)) || (!decide (r8.2 = 0))) then
  some false
  else
  Gx (Gx (Option.bind (Vp) (fun r9 =>
  some r9)) (fun j5 =>
  Hw r8 j5 r7.1 0)) (fun j3 =>
  Hv r7 j3 r8.1 0)))) (fun j1 =>
  Ho r1 r3 j1 r5 0 ([] : List Dj)))))))
theorem twin_eqs : True:=by
  have h:=@Lf.eq_def; clear h; have h:=@Lf.eq_1; clear h; have h:=@Lf.eq_2; clear h
  have h:=@Kt.eq_def; clear h; have h:=@Kt.eq_1; clear h; have h:=@Kt.eq_2; clear h
  have h:=@Js.eq_def; clear h; have h:=@Js.eq_1; clear h; have h:=@Js.eq_2; clear h
  have h:=@Ek.eq_def; clear h; have h:=@Ek.eq_1; clear h; have h:=@Ek.eq_2; clear h
  have h:=@Ff.eq_def; clear h; have h:=@Ff.eq_1; clear h; have h:=@Ff.eq_2; clear h
  have h:=@Fx.eq_def; clear h; have h:=@Fx.eq_1; clear h; have h:=@Fx.eq_2; clear h
  have h:=@He.eq_def; clear h; have h:=@He.eq_1; clear h; have h:=@He.eq_2; clear h
  have h:=@Fy.eq_def; clear h; have h:=@Fy.eq_1; clear h; have h:=@Fy.eq_2; clear h
  have h:=@Ns.eq_def; clear h; have h:=@Ns.eq_1; clear h; have h:=@Ns.eq_2; clear h
  have h:=@Ma.eq_def; clear h; have h:=@Ma.eq_1; clear h; have h:=@Ma.eq_2; clear h
  have h:=@Ez.eq_def; clear h; have h:=@Ez.eq_1; clear h; have h:=@Ez.eq_2; clear h
  have h:=@Il.eq_def; clear h; have h:=@Il.eq_1; clear h; have h:=@Il.eq_2; clear h
  have h:=@Jg.eq_def; clear h; have h:=@Jg.eq_1; clear h; have h:=@Jg.eq_2; clear h
  have h:=@Ku.eq_def; clear h; have h:=@Ku.eq_1; clear h; have h:=@Ku.eq_2; clear h
  have h:=@Ee.eq_def; clear h; have h:=@Ee.eq_1; clear h; have h:=@Ee.eq_2; clear h
  have h:=@Ej.eq_def; clear h; have h:=@Ej.eq_1; clear h; have h:=@Ej.eq_2; clear h
  have h:=@Fd.eq_def; clear h; have h:=@Fd.eq_1; clear h; have h:=@Fd.eq_2; clear h
  have h:=@Gg.eq_def; clear h; have h:=@Gg.eq_1; clear h; have h:=@Gg.eq_2; clear h
  have h:=@Kv.eq_def; clear h; have h:=@Kv.eq_1; clear h; have h:=@Kv.eq_2; clear h
  have h:=@Mh.eq_def; clear h; have h:=@Mh.eq_1; clear h; have h:=@Mh.eq_2; clear h
  have h:=@Mz.eq_def; clear h; have h:=@Mz.eq_1; clear h; have h:=@Mz.eq_2; clear h
  have h:=@Iv.eq_def; clear h; have h:=@Iv.eq_1; clear h; have h:=@Iv.eq_2; clear h
  have h:=@Kf.eq_def; clear h; have h:=@Kf.eq_1; clear h; have h:=@Kf.eq_2; clear h
  have h:=@Lk.eq_def; clear h; have h:=@Lk.eq_1; clear h; have h:=@Lk.eq_2; clear h
  have h:=@Ms.eq_def; clear h; have h:=@Ms.eq_1; clear h; have h:=@Ms.eq_2; clear h
  have h:=@Py.eq_def; clear h; have h:=@Py.eq_1; clear h; have h:=@Py.eq_2; clear h
  have h:=@Gu.eq_def; clear h; have h:=@Gu.eq_1; clear h; have h:=@Gu.eq_2; clear h
  have h:=@Em.eq_def; clear h; have h:=@Em.eq_1; clear h; have h:=@Em.eq_2; clear h
  have h:=@Fm.eq_def; clear h; have h:=@Fm.eq_1; clear h; have h:=@Fm.eq_2; clear h
  have h:=@Gw.eq_def; clear h; have h:=@Gw.eq_1; clear h; have h:=@Gw.eq_2; clear h
  have h:=@Mc.eq_def; clear h; have h:=@Mc.eq_1; clear h; have h:=@Mc.eq_2; clear h
  have h:=@Na.eq_def; clear h; have h:=@Na.eq_1; clear h; have h:=@Na.eq_2; clear h
  have h:=@Pd.eq_def; clear h; have h:=@Pd.eq_1; clear h; have h:=@Pd.eq_2; clear h
  have h:=@Lq.eq_def; clear h; have h:=@Lq.eq_1; clear h; have h:=@Lq.eq_2; clear h
  have h:=@Jt.eq_def; clear h; have h:=@Jt.eq_1; clear h; have h:=@Jt.eq_2; clear h
  have h:=@Eo.eq_def; clear h; have h:=@Eo.eq_1; clear h; have h:=@Eo.eq_2; clear h
  have h:=@Fp.eq_def; clear h; have h:=@Fp.eq_1; clear h; have h:=@Fp.eq_2; clear h
  have h:=@Gl.eq_def; clear h; have h:=@Gl.eq_1; clear h; have h:=@Gl.eq_2; clear h
  have h:=@Hm.eq_def; clear h; have h:=@Hm.eq_1; clear h; have h:=@Hm.eq_2; clear h
  have h:=@Gm.eq_def; clear h; have h:=@Gm.eq_1; clear h; have h:=@Gm.eq_2; clear h
  have h:=@Pe.eq_def; clear h; have h:=@Pe.eq_1; clear h; have h:=@Pe.eq_2; clear h
  have h:=@Oc.eq_def; clear h; have h:=@Oc.eq_1; clear h; have h:=@Oc.eq_2; clear h
  have h:=@Od.eq_def; clear h; have h:=@Od.eq_1; clear h; have h:=@Od.eq_2; clear h
  have h:=@Mt.eq_def; clear h; have h:=@Mt.eq_1; clear h; have h:=@Mt.eq_2; clear h
  have h:=@El.eq_def; clear h; have h:=@El.eq_1; clear h; have h:=@El.eq_2; clear h
  have h:=@Fh.eq_def; clear h; have h:=@Fh.eq_1; clear h; have h:=@Fh.eq_2; clear h
  have h:=@Fz.eq_def; clear h; have h:=@Fz.eq_1; clear h; have h:=@Fz.eq_2; clear h
  have h:=@Hf.eq_def; clear h; have h:=@Hf.eq_1; clear h; have h:=@Hf.eq_2; clear h
  have h:=@Ga.eq_def; clear h; have h:=@Ga.eq_1; clear h; have h:=@Ga.eq_2; clear h
  have h:=@Nt.eq_def; clear h; have h:=@Nt.eq_1; clear h; have h:=@Nt.eq_2; clear h
  have h:=@Lz.eq_def; clear h; have h:=@Lz.eq_1; clear h; have h:=@Lz.eq_2; clear h
  have h:=@Fv.eq_def; clear h; have h:=@Fv.eq_1; clear h; have h:=@Fv.eq_2; clear h
  have h:=@Lt.eq_def; clear h; have h:=@Lt.eq_1; clear h; have h:=@Lt.eq_2; clear h
  have h:=@Ky.eq_def; clear h; have h:=@Ky.eq_1; clear h; have h:=@Ky.eq_2; clear h
  have h:=@Lu.eq_def; clear h; have h:=@Lu.eq_1; clear h; have h:=@Lu.eq_2; clear h
  have h:=@Ki.eq_def; clear h; have h:=@Ki.eq_1; clear h; have h:=@Ki.eq_2; clear h
  have h:=@Mr.eq_def; clear h; have h:=@Mr.eq_1; clear h; have h:=@Mr.eq_2; clear h
  have h:=@Kz.eq_def; clear h; have h:=@Kz.eq_1; clear h; have h:=@Kz.eq_2; clear h
  have h:=@Kg.eq_def; clear h; have h:=@Kg.eq_1; clear h; have h:=@Kg.eq_2; clear h
  have h:=@Mi.eq_def; clear h; have h:=@Mi.eq_1; clear h; have h:=@Mi.eq_2; clear h
  have h:=@Lo.eq_def; clear h; have h:=@Lo.eq_1; clear h; have h:=@Lo.eq_2; clear h
  have h:=@Km.eq_def; clear h; have h:=@Km.eq_1; clear h; have h:=@Km.eq_2; clear h
  have h:=@Kn.eq_def; clear h; have h:=@Kn.eq_1; clear h; have h:=@Kn.eq_2; clear h
  have h:=@Jo.eq_def; clear h; have h:=@Jo.eq_1; clear h; have h:=@Jo.eq_2; clear h
  have h:=@La.eq_def; clear h; have h:=@La.eq_1; clear h; have h:=@La.eq_2; clear h
  have h:=@Mu.eq_def; clear h; have h:=@Mu.eq_1; clear h; have h:=@Mu.eq_2; clear h
  have h:=@Md.eq_def; clear h; have h:=@Md.eq_1; clear h; have h:=@Md.eq_2; clear h
  have h:=@Nb.eq_def; clear h; have h:=@Nb.eq_1; clear h; have h:=@Nb.eq_2; clear h
  have h:=@Me.eq_def; clear h; have h:=@Me.eq_1; clear h; have h:=@Me.eq_2; clear h
  have h:=@Mv.eq_def; clear h; have h:=@Mv.eq_1; clear h; have h:=@Mv.eq_2; clear h
  have h:=@Ll.eq_def; clear h; have h:=@Ll.eq_1; clear h; have h:=@Ll.eq_2; clear h
  have h:=@Ep.eq_def; clear h; have h:=@Ep.eq_1; clear h; have h:=@Ep.eq_2; clear h
  have h:=@Fq.eq_def; clear h; have h:=@Fq.eq_1; clear h; have h:=@Fq.eq_2; clear h
  have h:=@Gy.eq_def; clear h; have h:=@Gy.eq_1; clear h; have h:=@Gy.eq_2; clear h
  have h:=@Oe.eq_def; clear h; have h:=@Oe.eq_1; clear h; have h:=@Oe.eq_2; clear h
  have h:=@Pz.eq_def; clear h; have h:=@Pz.eq_1; clear h; have h:=@Pz.eq_2; clear h
  have h:=@Er.eq_def; clear h; have h:=@Er.eq_1; clear h; have h:=@Er.eq_2; clear h
  have h:=@Ft.eq_def; clear h; have h:=@Ft.eq_1; clear h; have h:=@Ft.eq_2; clear h
  have h:=@Gz.eq_def; clear h; have h:=@Gz.eq_1; clear h; have h:=@Gz.eq_2; clear h
  have h:=@Og.eq_def; clear h; have h:=@Og.eq_1; clear h; have h:=@Og.eq_2; clear h
  have h:=@Np.eq_def; clear h; have h:=@Np.eq_1; clear h; have h:=@Np.eq_2; clear h
  have h:=@Mw.eq_def; clear h; have h:=@Mw.eq_1; clear h; have h:=@Mw.eq_2; clear h
  have h:=@Nq.eq_def; clear h; have h:=@Nq.eq_1; clear h; have h:=@Nq.eq_2; clear h
  have h:=@Ei.eq_def; clear h; have h:=@Ei.eq_1; clear h; have h:=@Ei.eq_2; clear h
  have h:=@En.eq_def; clear h; have h:=@En.eq_1; clear h; have h:=@En.eq_2; clear h
  have h:=@Ox.eq_def; clear h; have h:=@Ox.eq_1; clear h; have h:=@Ox.eq_2; clear h
  have h:=@Oy.eq_def; clear h; have h:=@Oy.eq_1; clear h; have h:=@Oy.eq_2; clear h
  have h:=@Oz.eq_def; clear h; have h:=@Oz.eq_1; clear h; have h:=@Oz.eq_2; clear h
  have h:=@Lx.eq_def; clear h; have h:=@Lx.eq_1; clear h; have h:=@Lx.eq_2; clear h
  have h:=@Mk.eq_def; clear h; have h:=@Mk.eq_1; clear h; have h:=@Mk.eq_2; clear h
  have h:=@Ml.eq_def; clear h; have h:=@Ml.eq_1; clear h; have h:=@Ml.eq_2; clear h
  have h:=@Nd.eq_def; clear h; have h:=@Nd.eq_1; clear h; have h:=@Nd.eq_2; clear h
  have h:=@Pa.eq_def; clear h; have h:=@Pa.eq_1; clear h; have h:=@Pa.eq_2; clear h
  have h:=@Rd.eq_def; clear h; have h:=@Rd.eq_1; clear h; have h:=@Rd.eq_2; clear h
  have h:=@Re.eq_def; clear h; have h:=@Re.eq_1; clear h; have h:=@Re.eq_2; clear h
  have h:=@Hn.eq_def; clear h; have h:=@Hn.eq_1; clear h; have h:=@Hn.eq_2; clear h
  have h:=@Ho.eq_def; clear h; have h:=@Ho.eq_1; clear h; have h:=@Ho.eq_2; clear h
  have h:=@Hv.eq_def; clear h; have h:=@Hv.eq_1; clear h; have h:=@Hv.eq_2; clear h
  have h:=@Hw.eq_def; clear h; have h:=@Hw.eq_1; clear h; have h:=@Hw.eq_2; clear h
  trivial
end
end Go.Proofs.YtfdmkmnjfhbliaaGreatDoor
