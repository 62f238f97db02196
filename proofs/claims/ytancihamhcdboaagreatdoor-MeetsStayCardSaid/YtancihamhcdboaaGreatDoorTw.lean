/- The Go functions as plain Lean functions,by program. -/
import Derived.Test.YtancihamhcdboaaGreatDoorBase
namespace Go.Proofs.YtancihamhcdboaaGreatDoor
open Go
noncomputable section
structure VG where
  L : List Int
  at_ : Int
  deriving DecidableEq,Inhabited
structure Em where
  Key : ByteArray
  Metres : Int
  Stroke : Int
  Course : Int
  Legs : Int
  Sex : Int
  Young : Int
  Old : Int
  deriving DecidableEq,Inhabited
structure Mz where
  Points : List Int
  Relay : Int
  Most : Int
  deriving DecidableEq,Inhabited
structure Uh where
  Size : Int
  Many : Int
  Reserves : Int
  deriving DecidableEq,Inhabited
structure Kq where
  Races : List Em
  Table : Mz
  Final : Uh
  deriving DecidableEq,Inhabited
structure Dx where
  Site : ByteArray
  No : Int
  At : Int
  Kind : Int
  Who : ByteArray
  Club : ByteArray
  Race : ByteArray
  Time : Int
  Fault : Int
  Of : ByteArray
  Other : Int
  deriving DecidableEq,Inhabited
structure Eo where
  site_ : ByteArray
  no_ : Int
  deriving DecidableEq,Inhabited
structure Lc where
  p_ : Kq
  deeds_ : List Dx
  deriving DecidableEq,Inhabited
structure Ee where
  Num : Int
  Den : Int
  deriving DecidableEq,Inhabited
structure Ih where
  Rank : Int
  Who : ByteArray
  Club : ByteArray
  Time : Int
  Fault : Int
  Points : Ee
  deriving DecidableEq,Inhabited
structure Kg where
  Who : ByteArray
  Time : Int
  deriving DecidableEq,Inhabited
structure Iw where
  Who : ByteArray
  Fault : Int
  Reports : List ByteArray
  deriving DecidableEq,Inhabited
structure Eb where
  Who : ByteArray
  Rank : Int
  Time : Int
  Fault : Int
  deriving DecidableEq,Inhabited
structure Dy where
  Race : ByteArray
  Who : ByteArray
  Club : ByteArray
  Rank : Int
  Relay : Bool
  deriving DecidableEq,Inhabited
structure Fv where
  race_ : ByteArray
  who_ : ByteArray
  deriving DecidableEq,Inhabited
structure Ej where
  Key : ByteArray
  Points : Ee
  deriving DecidableEq,Inhabited
structure Eg where
  x_ : Dy
  points_ : Ee
  deriving DecidableEq,Inhabited
structure Nq where
  Year : Int
  Month : Int
  Day : Int
  deriving DecidableEq,Inhabited
structure Ov where
  Key : ByteArray
  Heats : Int
  Long : Int
  Gap : Int
  Break : Int
  deriving DecidableEq,Inhabited
structure Ve where
  From : Int
  To : Int
  deriving DecidableEq,Inhabited
structure Lq where
  Item : ByteArray
  Heat : Int
  Time : Ve
  deriving DecidableEq,Inhabited
structure Sp where
  Race : ByteArray
  Time : Int
  deriving DecidableEq,Inhabited
structure Vw where
  Key : ByteArray
  Race : ByteArray
  Clubs : List ByteArray
  Young : Int
  Old : Int
  deriving DecidableEq,Inhabited
structure Li where
  At : Int
  Kind : Int
  Id : ByteArray
  Who : ByteArray
  Club : ByteArray
  Race : ByteArray
  Age : Int
  Time : Int
  deriving DecidableEq,Inhabited
def An : ByteArray:=⟨#[]⟩
def Rj : ByteArray:=⟨#[114,97]⟩
def Uu : ByteArray:=⟨#[114,98]⟩
def Xi : ByteArray:=⟨#[114,99]⟩
def Tw : ByteArray:=⟨#[115,97]⟩
def HT : ByteArray:=⟨#[115,98]⟩
def Yg : ByteArray:=⟨#[97,110,110]⟩
def CS : ByteArray:=⟨#[98,101,97]⟩
def CT : ByteArray:=⟨#[99,105,100]⟩
def CU : ByteArray:=⟨#[100,97,110]⟩
def RM : ByteArray:=⟨#[114,122]⟩
def Uv : ByteArray:=⟨#[98,108,117,101]⟩
def FA : ByteArray:=⟨#[114,101,100]⟩
def k_A : ByteArray:=⟨#[65]⟩
def Lo : ByteArray:=⟨#[97,98,99,100,101,102,103,104,105,106,107,108,109,110,111,112,113,114,115,116,117,118,119,120,121,122]⟩
def Io : ByteArray:=⟨#[97,98,99,100,101,102,103,104,105,106,107,108,109,110,111,112,113,114,115,116,117,118,119,120,121,122,48,49,50,51,52,53,54,55,56,57,45,95]⟩
def Qt : ByteArray:=⟨#[0,1,2,2,3,3,3,3,4,4,4,4,4,4,4,4,5,5,5,5,5,5,5,5,5,5,5,5,5,5,5,5,6,6,6,6,6,6,6,6,6,6,6,6,6,6,6,6,6,6,6,6,6,6,6,6,6,6,6,6,6,6,6,6,7,7,7,7,7,7,7,7,7,7,7,7,7,7,7,7,7,7,7,7,7,7,7,7,7,7,7,7,7,7,7,7,7,7,7,7,7,7,7,7,7,7,7,7,7,7,7,7,7,7,7,7,7,7,7,7,7,7,7,7,7,7,7,7,8,8,8,8,8,8,8,8,8,8,8,8,8,8,8,8,8,8,8,8,8,8,8,8,8,8,8,8,8,8,8,8,8,8,8,8,8,8,8,8,8,8,8,8,8,8,8,8,8,8,8,8,8,8,8,8,8,8,8,8,8,8,8,8,8,8,8,8,8,8,8,8,8,8,8,8,8,8,8,8,8,8,8,8,8,8,8,8,8,8,8,8,8,8,8,8,8,8,8,8,8,8,8,8,8,8,8,8,8,8,8,8,8,8,8,8,8,8,8,8,8,8,8,8,8,8,8,8]⟩
def Qe : ByteArray:=⟨#[32]⟩
def k_a : ByteArray:=⟨#[97]⟩
def k_r : ByteArray:=⟨#[114]⟩
def k_k : ByteArray:=⟨#[107]⟩
def k_i : ByteArray:=⟨#[105]⟩
def Rk (p_x : Int) (p_n : Int) : Option Int :=
  if decide (p_n < 1) then
  some 0
  else
  Chk (!decide (p_n = 0)) (
  Gq (fun (x1 : Int) =>
  some x1) (fun j1 =>
  if decide ((Int.tmod p_x p_n) < 0) then
  j1 (W ((Int.tmod p_x p_n) + p_n))
  else
  j1 (Int.tmod p_x p_n)))
def Qw (p_s_L : List Int) (p_s_at : Int) (p_n : Int) : Option (Int × Int) :=
  if decide ((p_s_L.length : Int) = 0) then
  Option.bind (Rk (W ((W (p_s_at + 1)) * 7919)) p_n) (fun r1 =>
  some (r1,W (p_s_at + 1)))
  else
  Chk (!decide ((p_s_L.length : Int) = 0)) (
  Chk (!decide ((p_s_L.length : Int) = 0)) (
  Chk (inB (Int.tmod (W ((W (p_s_at + 1)) - 1)) (p_s_L.length : Int)) p_s_L.length) (
  Option.bind (Rk (nth p_s_L (Int.tmod (W ((W (p_s_at + 1)) - 1)) (p_s_L.length : Int))) 1073741824) (fun r2 =>
  Option.bind (Rk (W (r2 + (W ((W (Int.tdiv (W ((W (p_s_at + 1)) - 1)) (p_s_L.length : Int))) * (W (7919 + (Int.tmod (W ((W (p_s_at + 1)) - 1)) (p_s_L.length : Int)))))))) p_n) (fun r3 =>
  some (r3,W (p_s_at + 1)))))))
def Tg (p_s_L : List Int) (p_s_at : Int) (p_n : Int) : Option (Bool × Int) :=
  Option.bind (Qw p_s_L p_s_at p_n) (fun r1 =>
  some (decide (r1.1 = 0),r1.2))
def Kh (p_s_L : List Int) (p_s_at : Int) (p_l : List Int) : Option (Int × Int) :=
  Option.bind (Qw p_s_L p_s_at (p_l.length : Int)) (fun r1 =>
  Chk (inB r1.1 p_l.length) (
  some ((nth p_l r1.1),r1.2)))
def Tx (p_s_L : List Int) (p_s_at : Int) (p_key : ByteArray) : Option (Em × Int) :=
  Option.bind (Kh p_s_L p_s_at [50,100,200]) (fun r1 =>
  Option.bind (Kh p_s_L r1.2 [1,2,3,4]) (fun r2 =>
  Option.bind (Kh p_s_L r2.2 [25,50]) (fun r3 =>
  Option.bind (Kh p_s_L r3.2 [1,1,1,4]) (fun r4 =>
  Option.bind (Kh p_s_L r4.2 [0,1,2]) (fun r5 =>
  Option.bind (Kh p_s_L r5.2 [0,0,5,10]) (fun r6 =>
  Option.bind (Kh p_s_L r6.2 [0,5,90]) (fun r7 =>
  some ((Em.mk p_key r1.1 r2.1 r3.1 r4.1 r5.1 r6.1 (W (r6.1 + r7.1))),r7.2))))))))
def Lh (p_s_L : List Int) (j1 : (List Em) → Int → Option ((List Em) × Int)) : List ByteArray → Nat → (List Em) → Int → Option ((List Em) × Int)
  | [],_,x1,x2=>j1 x1 x2
  | y1 :: ys1,i1,x1,x2=>Gq (fun (x3 : List Em) (x4 : Int) =>
  Lh p_s_L j1 ys1 (i1 + 1) x3 x4) (fun j2 =>
  Option.bind (Tg p_s_L x2 6) (fun r1 =>
  Gq (fun (x5 : List Em) (x6 : Int) =>
  j2 x5 x6) (fun j3 =>
  if !r1.1 then
  Option.bind (Tx p_s_L r1.2 y1) (fun r2 =>
  Chk (Sq x1.length) (
  j3 (x1 ++ [r2.1]) r2.2))
  else
  j3 x1 r1.2)))
def Vg (p_s_L : List Int) (p_s_at : Int) : Option ((List Em) × Int) :=
  Gq (fun (x1 : List Em) (x2 : Int) =>
  some (x1,x2)) (fun j1 =>
  Lh p_s_L j1 ([Rj,Uu,Xi] : List ByteArray) 0 ([] : List Em) p_s_at)
def Pq (p_s_L : List Int) (p_s_at : Int) (p_low : Int) (p_high : Int) : Option (Int × Int) :=
  if decide (p_high < p_low) then
  some (p_low,p_s_at)
  else
  Option.bind (Qw p_s_L p_s_at (W ((W (p_high - p_low)) + 1))) (fun r1 =>
  some (W (p_low + r1.1),r1.2))
def Kn (r4 : Int × Int) (p_s_L : List Int) (j1 : (List Int) → Int → Option (Mz × Int)) : Nat → (List Int) → Int → Int → Int → Option (Mz × Int)
  | 0,_,_,_,_=>none
  | m1 + 1,x1,x2,x3,x4=>if decide (x4 < r4.1) then
  Chk (Sq x1.length) (
  Option.bind (Kh p_s_L x2 [0,1,2,3]) (fun r5 =>
  Kn r4 p_s_L j1 m1 (x1 ++ [x3]) r5.2 (HM 0 (W (x3 - r5.1))) (W (x4 + 1))))
  else
  j1 x1 x2
def Sb (p_s_L : List Int) (p_s_at : Int) : Option (Mz × Int) :=
  Option.bind (Kh p_s_L p_s_at [1,2]) (fun r1 =>
  Option.bind (Kh p_s_L r1.2 [0,0,1,2]) (fun r2 =>
  Option.bind (Kh p_s_L r2.2 [10,9,7,5]) (fun r3 =>
  Option.bind (Pq p_s_L r3.2 0 5) (fun r4 =>
  Gq (fun (x1 : List Int) (x2 : Int) =>
  some ((Mz.mk x1 r1.1 r2.1),x2)) (fun j1 =>
  Kn r4 p_s_L j1 ((r4.1 - 0).toNat + 2) ([] : List Int) r4.2 r3.1 0)))))
def Jl (j1 : (List Em) → Option (List Em)) : Nat → (List Em) → Int → Int → Option (List Em)
  | 0,_,_,_=>none
  | m1 + 1,x1,x2,x3=>if decide (x2 < x3) then
  Chk (inB x3 x1.length) (
  Chk (inB x2 x1.length) (
  Chk (inB x2 x1.length) (
  Chk (inB x3 (x1.set x2.toNat (nth x1 x3)).length) (
  Jl j1 m1 ((x1.set x2.toNat (nth x1 x3)).set x3.toNat (nth x1 x2)) (W (x2 + 1)) (W (x3 - 1))))))
  else
  j1 x1
def Qp (p_s : List Em) : Option (List Em) :=
  Gq (fun (x1 : List Em) =>
  some x1) (fun j1 =>
  Jl j1 (((W ((p_s.length : Int) - 1)) - 0).toNat + 2) p_s 0 (W ((p_s.length : Int) - 1)))
def Rd (p_s_L : List Int) (p_s_at : Int) : Option (Kq × Int) :=
  Option.bind (Vg p_s_L p_s_at) (fun r1 =>
  Option.bind (Sb p_s_L r1.2) (fun r2 =>
  Option.bind (Pq p_s_L r2.2 1 3) (fun r3 =>
  Option.bind (Pq p_s_L r3.2 1 2) (fun r4 =>
  Option.bind (Pq p_s_L r4.2 0 2) (fun r5 =>
  Option.bind (Qp r1.1) (fun r6 =>
  some ((Kq.mk r6 r2.1 (Uh.mk r3.1 r4.1 r5.1)),r5.2)))))))
def Pb (p_s_L : List Int) (p_s_at : Int) (p_l : List ByteArray) : Option (ByteArray × Int) :=
  Option.bind (Qw p_s_L p_s_at (p_l.length : Int)) (fun r1 =>
  Chk (inB r1.1 p_l.length) (
  some ((nth p_l r1.1),r1.2)))
def Tj (p_s_L : List Int) (p_s_at : Int) (p_low : Int) (p_high : Int) : Option (Int × Int) :=
  Option.bind (Tg p_s_L p_s_at 12) (fun r1 =>
  if r1.1 then
  Option.bind (Kh p_s_L r1.2 [W (p_low - 1),W (p_high + 1),p_low,p_high,(-1099511627776),1099511627776]) (fun r2 =>
  some (r2.1,r2.2))
  else
  Option.bind (Pq p_s_L r1.2 p_low p_high) (fun r3 =>
  some (r3.1,r3.2)))
def Vx (p_n : Int) : Int :=
  if decide (p_n < 0) then
  (-1)
  else
  if decide (0 < p_n) then
  1
  else
  0
def Hw (s t : ByteArray) : Int:=Lib.compareBytes s.data.toList t.data.toList
def Ke (p_a : Dx) (p_b : Dx) : Int :=
  if !decide (p_a.At = p_b.At) then
  (Vx (W (p_a.At - p_b.At)))
  else
  if !decide (p_a.Site = p_b.Site) then
  (Hw p_a.Site p_b.Site)
  else
  (Vx (W (p_a.No - p_b.No)))
def Ew (p_a : Int) (j2 : (List Dx) → Option (List Dx)) : Nat → (List Dx) → Int → Option (List Dx)
  | 0,_,_=>none
  | m2 + 1,x3,x4=>Gq (fun (x5 : Bool) =>
  if x5 then
  Chk (inB (W (x4 - 1)) x3.length) (
  Chk (inB x4 x3.length) (
  Chk (inB x4 x3.length) (
  Chk (inB (W (x4 - 1)) (x3.set x4.toNat (nth x3 (W (x4 - 1)))).length) (
  Ew p_a j2 m2 ((x3.set x4.toNat (nth x3 (W (x4 - 1)))).set ((W (x4 - 1)).toNat) (nth x3 x4)) (W (x4 - 1))))))
  else
  j2 x3) (fun j3 =>
  if decide (p_a < x4) then
  Chk (inB x4 x3.length) (
  Chk (inB (W (x4 - 1)) x3.length) (
  j3 (decide ((Ke (nth x3 x4) (nth x3 (W (x4 - 1)))) < 0))))
  else
  j3 false)
def Fo (p_b : Int) (p_a : Int) (j1 : (List Dx) → Option (List Dx)) : Nat → (List Dx) → Int → Option (List Dx)
  | 0,_,_=>none
  | m1 + 1,x1,x2=>if decide (x2 < p_b) then
  Gq (fun (x3 : List Dx) =>
  Fo p_b p_a j1 m1 x3 (W (x2 + 1))) (fun j2 =>
  Ew p_a j2 ((x2 - p_a).toNat + 2) x1 x2)
  else
  j1 x1
def Hp (p_data : List Dx) (p_a : Int) (p_b : Int) : Option (List Dx) :=
  Gq (fun (x1 : List Dx) =>
  some x1) (fun j1 =>
  Fo p_b p_a j1 ((p_b - (W (p_a + 1))).toNat + 2) p_data (W (p_a + 1)))
def Gi (p_n : Int) (j1 : (List Dx) → Int → Option (List Dx)) : Nat → (List Dx) → Int → Int → Option (List Dx)
  | 0,_,_,_=>none
  | m1 + 1,x1,x2,x3=>if decide (x3 ≤ p_n) then
  Option.bind (Hp x1 x2 x3) (fun r1 =>
  Gi p_n j1 m1 r1 x3 (W (x3 + 20)))
  else
  j1 x1 x2
def Hj (p_n : Int) (j3 : Int → Option (List Dx)) : Nat → Int → Int → Option (List Dx)
  | 0,_,_=>none
  | _ + 1,x5,x6=>if decide (x6 ≤ p_n) then
  none
  else
  j3 x5
def Gj (p_n : Int) (j2 : Option (List Dx)) : Nat → Int → Option (List Dx)
  | 0,_=>none
  | m2 + 1,x4=>if decide (x4 < p_n) then
  Gq (fun (x5 : Int) =>
  if decide ((W (x5 + x4)) < p_n) then
  none
  else
  Gj p_n j2 m2 (W (x4 * 2))) (fun j3 =>
  Hj p_n j3 ((p_n - (W (2 * x4))).toNat + 2) 0 (W (2 * x4)))
  else
  j2
def Jx (p_data : List Dx) (p_n : Int) : Option (List Dx) :=
  Gq (fun (x1 : List Dx) (x2 : Int) =>
  Option.bind (Hp x1 x2 p_n) (fun r2 =>
  Gq (some r2) (fun j2 =>
  Gj p_n j2 ((p_n - 20).toNat + 2) 20))) (fun j1 =>
  Gi p_n j1 ((p_n - 20).toNat + 2) p_data 0 20)
def Ig (p_x : List Dx) : Option (List Dx) :=
  Option.bind (Jx p_x (p_x.length : Int)) (fun r1 =>
  some r1)
def Ny (p_many : Int) (p_s_L : List Int) (j1 : (List (ByteArray × Int)) → (List Dx) → Int → Option ((List Dx) × Int)) : Nat → (List (ByteArray × Int)) → (List Dx) → Int → Int → Int → Option ((List Dx) × Int)
  | 0,_,_,_,_,_=>none
  | m1 + 1,x1,x2,x3,x4,x5=>if decide (x5 < p_many) then
  Option.bind (Kh p_s_L x3 [0,1,5]) (fun r1 =>
  Option.bind (Pb p_s_L r1.2 [Tw,Tw,HT]) (fun r2 =>
  Option.bind (Kh p_s_L r2.2 [1,1,1,3,3,3,2,4]) (fun r3 =>
  Gq (fun (x6 : ByteArray) (x7 : ByteArray) (x8 : Int) =>
  Gq (fun (x9 : ByteArray) (x10 : Int) (x11 : Int) (x12 : ByteArray) (x13 : Int) (x14 : Int) =>
  Option.bind (Tg p_s_L x14 100) (fun r12 =>
  Gq (fun (x29 : ByteArray) (x30 : Int) (x31 : Int) (x32 : ByteArray) (x33 : ByteArray) (x34 : ByteArray) (x35 : Int) (x36 : Int) (x37 : Int) (x38 : Int) =>
  Chk (Sq x2.length) (
  Ny p_many p_s_L j1 m1 (Gw x1 r2.1 (W ((El x1 r2.1 0) + 1))) (x2 ++ [(Dx.mk x29 x30 (W (x4 + r1.1)) x31 x32 x33 x34 x35 x36 x12 x37)]) x38 (W (x4 + r1.1)) (W (x5 + 1)))) (fun j7 =>
  if r12.1 then
  Option.bind (Qw p_s_L r12.2 4) (fun r13 =>
  Gq (fun (x39 : ByteArray) (x40 : Int) (x41 : Int) (x42 : ByteArray) (x43 : ByteArray) (x44 : ByteArray) (x45 : Int) (x46 : Int) (x47 : Int) (x48 : Int) =>
  j7 x39 x40 x41 x42 x43 x44 x45 x46 x47 x48) (fun j8 =>
  Gq (fun (x49 : ByteArray) (x50 : Int) (x51 : Int) (x52 : ByteArray) (x53 : ByteArray) (x54 : ByteArray) (x55 : Int) (x56 : Int) (x57 : Int) (x58 : Int) =>
  j8 x49 x50 x51 x52 x53 x54 x55 x56 x57 x58) (fun j9 =>
  if decide (r13.1 = 0) then
  Option.bind (Pb p_s_L r13.2 [An,Tw]) (fun r14 =>
  Option.bind (Tj p_s_L r14.2 1 9) (fun r15 =>
  j9 r14.1 r15.1 r3.1 x6 x9 x7 x10 x11 x13 r15.2))
  else
  Gq (fun (x59 : Int) (x60 : ByteArray) (x61 : ByteArray) (x62 : ByteArray) (x63 : Int) (x64 : Int) (x65 : Int) (x66 : Int) =>
  j9 r2.1 (El (Gw x1 r2.1 (W ((El x1 r2.1 0) + 1))) r2.1 0) x59 x60 x61 x62 x63 x64 x65 x66) (fun j10 =>
  if decide (r13.1 = 1) then
  Option.bind (Tj p_s_L r13.2 1 4) (fun r16 =>
  j10 r16.1 x6 x9 x7 x10 x11 x13 r16.2)
  else
  Gq (fun (x67 : ByteArray) (x68 : ByteArray) (x69 : ByteArray) (x70 : Int) (x71 : Int) (x72 : Int) (x73 : Int) =>
  j10 r3.1 x67 x68 x69 x70 x71 x72 x73) (fun j11 =>
  if decide (r13.1 = 2) then
  Option.bind (Pb p_s_L r13.2 [An,Yg]) (fun r17 =>
  Option.bind (Pb p_s_L r17.2 [k_A,Uv]) (fun r18 =>
  Option.bind (Pb p_s_L r18.2 [An,Rj]) (fun r19 =>
  j11 r17.1 r18.1 r19.1 x10 x11 x13 r19.2)))
  else
  Option.bind (Tj p_s_L r13.2 0 360000) (fun r20 =>
  Option.bind (Tj p_s_L r20.2 0 8) (fun r21 =>
  Option.bind (Tj p_s_L r21.2 0 5) (fun r22 =>
  j11 x6 x9 x7 r20.1 r21.1 r22.1 r22.2))))))))
  else
  j7 r2.1 (El (Gw x1 r2.1 (W ((El x1 r2.1 0) + 1))) r2.1 0) r3.1 x6 x9 x7 x10 x11 x13 r12.2))) (fun j3 =>
  Gq (fun (x15 : ByteArray) (x16 : Int) (x17 : Int) (x18 : ByteArray) (x19 : Int) (x20 : Int) =>
  j3 x15 x16 x17 x18 x19 x20) (fun j4 =>
  if decide (r3.1 = 1) then
  Option.bind (Pb p_s_L x8 [Uv,FA,An]) (fun r6 =>
  Option.bind (Kh p_s_L r6.2 [0,5900,6000,7000]) (fun r7 =>
  j4 r6.1 r7.1 0 An 0 r7.2))
  else
  Gq (fun (x21 : Int) (x22 : Int) (x23 : ByteArray) (x24 : Int) (x25 : Int) =>
  j4 An x21 x22 x23 x24 x25) (fun j5 =>
  if decide (r3.1 = 3) then
  Option.bind (Kh p_s_L x8 [0,5900,5900,6000,6100]) (fun r8 =>
  Option.bind (Kh p_s_L r8.2 [0,0,0,0,3]) (fun r9 =>
  j5 r8.1 r9.1 An 0 r9.2))
  else
  Gq (fun (x26 : ByteArray) (x27 : Int) (x28 : Int) =>
  j5 0 0 x26 x27 x28) (fun j6 =>
  if decide (r3.1 = 4) then
  Option.bind (Pb p_s_L x8 [Tw,Tw,HT]) (fun r10 =>
  Option.bind (Pq p_s_L r10.2 1 (HM 1 (El (Gw x1 r2.1 (W ((El x1 r2.1 0) + 1))) Tw 0))) (fun r11 =>
  j6 r10.1 r11.1 r11.2))
  else
  j6 An 0 x8))))) (fun j2 =>
  if !decide (r3.1 = 4) then
  Option.bind (Pb p_s_L r3.2 [Yg,CS,CT,CU]) (fun r4 =>
  Option.bind (Pb p_s_L r4.2 [Rj,Rj,Uu,RM]) (fun r5 =>
  j2 r4.1 r5.1 r5.2))
  else
  j2 An An r3.2))))
  else
  j1 x1 x2 x3
def Wu (p_s_L : List Int) (p_s_at : Int) (p_many : Int) : Option ((List Dx) × Int) :=
  Gq (fun (x1 : List (ByteArray × Int)) (x2 : List Dx) (x3 : Int) =>
  Option.bind (Ig x2) (fun r23 =>
  some (r23,x3))) (fun j1 =>
  Ny p_many p_s_L j1 ((p_many - 0).toNat + 2) ([] : List (ByteArray × Int)) ([] : List Dx) p_s_at 0 0)
def Le (p_n : Int) (p_low : Int) (p_high : Int) : Bool :=
  ((decide (p_low ≤ p_n)) && (decide (p_n ≤ p_high)))
def Uk (s : ByteArray) (c : Int) : Int:=Lib.indexByte s.data.toList c.toNat.toUInt8
def Mh (p_s : ByteArray) (p_some : ByteArray) (j1 : Option Bool) : Nat → Int → Option Bool
  | 0,_=>none
  | m1 + 1,x1=>if decide (x1 < (p_s.size : Int)) then
  Chk (inB x1 p_s.size) (
  if decide ((Uk p_some (Zs p_s x1)) < 0) then
  some false
  else
  Mh p_s p_some j1 m1 (W (x1 + 1)))
  else
  j1
def Ue (p_s : ByteArray) (p_some : ByteArray) : Option Bool :=
  Gq (some true) (fun j1 =>
  Mh p_s p_some j1 (((p_s.size : Int) - 0).toNat + 2) 0)
def Pz (p_s : ByteArray) : Option Bool :=
  Gq (fun (c1 : Bool) =>
  Gq (fun (c2 : Bool) =>
  some c2) (fun j2 =>
  if c1 then Option.bind (Ue p_s Io) (fun r2 =>
  j2 (c1 && r2)) else j2 (c1 && true))) (fun j1 =>
  if (Le (p_s.size : Int) 1 40) then Chk (EM 0 1 p_s.size) (
  Option.bind (Ue (OQ p_s 0 1) Lo) (fun r1 =>
  j1 ((Le (p_s.size : Int) 1 40) && r1))) else j1 ((Le (p_s.size : Int) 1 40) && true))
def Qo (p_at : Int) : Bool :=
  (Le p_at 0 345686399999)
def Rl (p_d : Dx) : Option Int :=
  Option.bind (Pz p_d.Site) (fun r1 =>
  if !r1 then
  some 5
  else
  if ((!(Le p_d.No 1 1000000)) || (!(Qo p_d.At))) then
  some 1
  else
  if !(Le p_d.Kind 1 4) then
  some 4
  else
  Gq (fun (x1 : ByteArray) (x2 : ByteArray) (x3 : ByteArray) (x4 : Int) =>
  Gq (fun (x5 : ByteArray) =>
  Gq (fun (x6 : Int) =>
  Gq (fun (x7 : Int) =>
  if !decide (p_d = (Dx.mk p_d.Site p_d.No p_d.At p_d.Kind x1 x5 x2 x6 x7 x3 x4)) then
  some 3
  else
  some 0) (fun j7 =>
  if decide (p_d.Kind = 3) then
  if !(Le p_d.Fault 0 8) then
  some 1
  else
  j7 p_d.Fault
  else
  j7 0)) (fun j6 =>
  if ((decide (p_d.Kind = 1)) || (decide (p_d.Kind = 3))) then
  if !(Le p_d.Time 0 360000) then
  some 1
  else
  j6 p_d.Time
  else
  j6 0)) (fun j5 =>
  if decide (p_d.Kind = 1) then
  j5 p_d.Club
  else
  j5 An)) (fun j1 =>
  if decide (p_d.Kind = 4) then
  Option.bind (Pz p_d.Of) (fun r2 =>
  if !r2 then
  some 5
  else
  if !(Le p_d.Other 1 1000000) then
  some 1
  else
  j1 An An p_d.Of p_d.Other)
  else
  Option.bind (Pz p_d.Who) (fun r3 =>
  Gq (fun (c1 : Bool) =>
  Gq (fun (c2 : Bool) =>
  if c2 then
  some 5
  else
  j1 p_d.Who p_d.Race An 0) (fun j3 =>
  if c1 then j3 (c1 || true) else Gq (fun (c3 : Bool) =>
  j3 (c1 || c3)) (fun j4 =>
  if ((decide (p_d.Kind = 1)) && (!decide (p_d.Club = An))) then Option.bind (Pz p_d.Club) (fun r5 =>
  j4 (((decide (p_d.Kind = 1)) && (!decide (p_d.Club = An))) && (!r5))) else j4 (((decide (p_d.Kind = 1)) && (!decide (p_d.Club = An))) && true)))) (fun j2 =>
  if (!r3) then j2 ((!r3) || true) else Option.bind (Pz p_d.Race) (fun r4 =>
  j2 ((!r3) || (!r4)))))))
def Wd (p_a : Dx) (p_b : Dx) : Bool :=
  ((decide (p_a.Site = p_b.Site)) && (decide (p_a.No = p_b.No)))
def Ps (p_o : Dx) (p_a1 : Dx) : Bool :=
  (Wd p_o p_a1)
def Fl (p_f_0 : Dx) (j1 : Int) : List Dx → Nat → Int
  | [],_=>j1
  | y1 :: ys1,i1=>if (Ps y1 p_f_0) then
  (i1 : Int)
  else
  Fl p_f_0 j1 ys1 (i1 + 1)
def Mi (p_s : List Dx) (p_f_0 : Dx) : Int :=
  Gq ((-1)) (fun j1 =>
  Fl p_f_0 j1 p_s 0)
def Jk (p_s : List Dx) (p_f_0 : Dx) : Bool :=
  decide (0 ≤ (Mi p_s p_f_0))
def Ip (p_l : List Dx) (j1 : Option Int) : List Dx → Nat → Option Int
  | [],_=>j1
  | y1 :: ys1,i1=>Option.bind (Rl y1) (fun r1 =>
  if !decide (r1 = 0) then
  some r1
  else
  Gq (fun (x1 : Bool) =>
  if x1 then
  some 7
  else
  Ip p_l j1 ys1 (i1 + 1)) (fun j2 =>
  if decide (0 < (i1 : Int)) then
  Chk (inB (W ((i1 : Int) - 1)) p_l.length) (
  j2 (decide (0 ≤ (Ke (nth p_l (W ((i1 : Int) - 1))) y1))))
  else
  j2 false))
def Jc (p_l : List Dx) (j3 : Option Int) : List Dx → Nat → Option Int
  | [],_=>j3
  | y2 :: ys2,i2=>Chk (EM 0 (i2 : Int) p_l.length) (
  if (Jk (cut p_l 0 (i2 : Int)) y2) then
  some 6
  else
  Jc p_l j3 ys2 (i2 + 1))
def Qq (p_l : List Dx) : Option Int :=
  if decide (2000 < (p_l.length : Int)) then
  some 2
  else
  Gq (Gq (some 0) (fun j3 =>
  Jc p_l j3 p_l 0)) (fun j1 =>
  Ip p_l j1 p_l 0)
def Ko (p_s_L : List Int) (p_many : Int) (j1 : Int → Option ((List Dx) × Int)) : Nat → Int → Int → Option ((List Dx) × Int)
  | 0,_,_=>none
  | m1 + 1,x1,x2=>if decide (x2 < 5) then
  Option.bind (Wu p_s_L x1 p_many) (fun r1 =>
  Option.bind (Qq r1.1) (fun r2 =>
  if decide (r2 = 0) then
  some (r1.1,r1.2)
  else
  Ko p_s_L p_many j1 m1 r1.2 (W (x2 + 1))))
  else
  j1 x1
def Ql (p_s_L : List Int) (p_s_at : Int) (p_many : Int) : Option ((List Dx) × Int) :=
  Gq (fun (x1 : Int) =>
  some (([] : List Dx),x1)) (fun j1 =>
  Ko p_s_L p_many j1 7 p_s_at 0)
def Wv (s c : ByteArray) : Option ByteArray :=
  Chk (decide (s.size ≤ 9223372036854775807)) (Chk (decide (c.size < 4294967281)) (Chk (c.data.toList.all fun b=>decide (b.toNat < 128)) (some ⟨(Lib.trimS s.data.toList c.data.toList).toArray⟩)))
def Gy (p_s : ByteArray) : Option Bool :=
  Gq (fun (c1 : Bool) =>
  Gq (fun (c2 : Bool) =>
  Gq (fun (c3 : Bool) =>
  some c3) (fun j3 =>
  if c2 then Option.bind (Wv p_s Io) (fun r1 =>
  j3 (c2 && (decide (r1 = An)))) else j3 (c2 && true))) (fun j2 =>
  if c1 then Chk (inB 0 p_s.size) (
  j2 (c1 && (decide ((Zs p_s 0) ≤ 122)))) else j2 (c1 && true))) (fun j1 =>
  if ((decide (1 ≤ (p_s.size : Int))) && (decide ((p_s.size : Int) ≤ 40))) then Chk (inB 0 p_s.size) (
  j1 (((decide (1 ≤ (p_s.size : Int))) && (decide ((p_s.size : Int) ≤ 40))) && (decide (97 ≤ (Zs p_s 0))))) else j1 (((decide (1 ≤ (p_s.size : Int))) && (decide ((p_s.size : Int) ≤ 40))) && true))
def Ed (p_n : Int) (p_low : Int) (p_high : Int) : Bool :=
  ((decide (p_low ≤ p_n)) && (decide (p_n ≤ p_high)))
def Iz (p_n : Int) : Bool :=
  ((decide (0 ≤ p_n)) && (decide (p_n < 345686400000)))
def Ro (p_x : Dx) : Option Int :=
  Option.bind (Gy p_x.Site) (fun r1 =>
  if !r1 then
  some 5
  else
  if ((!(Ed p_x.No 1 1000000)) || (!(Iz p_x.At))) then
  some 1
  else
  if !(Ed p_x.Kind 1 4) then
  some 4
  else
  Gq (fun (c1 : Bool) =>
  Gq (fun (x1 : Bool) =>
  if x1 then
  some 5
  else
  Gq (fun (x2 : Bool) =>
  if x2 then
  some 1
  else
  Gq (fun (c4 : Bool) =>
  if c4 then
  some 5
  else
  if ((decide (p_x.Kind = 4)) && (!(Ed p_x.Other 1 1000000))) then
  some 1
  else
  Gq (fun (x3 : ByteArray) (x4 : ByteArray) (x5 : ByteArray) (x6 : Int) (x7 : Int) (x8 : ByteArray) (x9 : Int) =>
  if !decide (p_x = (Dx.mk p_x.Site p_x.No p_x.At p_x.Kind x3 x4 x5 x6 x7 x8 x9)) then
  some 3
  else
  some 0) (fun j7 =>
  Gq (fun (x10 : ByteArray) (x11 : ByteArray) (x12 : ByteArray) (x13 : Int) (x14 : Int) (x15 : ByteArray) (x16 : Int) =>
  j7 x10 x11 x12 x13 x14 x15 x16) (fun j8 =>
  if decide (p_x.Kind = 1) then
  j8 p_x.Who p_x.Club p_x.Race p_x.Time 0 An 0
  else
  Gq (fun (x17 : ByteArray) (x18 : ByteArray) (x19 : Int) (x20 : Int) (x21 : ByteArray) (x22 : Int) =>
  j8 x17 An x18 x19 x20 x21 x22) (fun j9 =>
  if decide (p_x.Kind = 3) then
  j9 p_x.Who p_x.Race p_x.Time p_x.Fault An 0
  else
  Gq (fun (x23 : ByteArray) (x24 : ByteArray) (x25 : ByteArray) (x26 : Int) =>
  j9 x23 x24 0 0 x25 x26) (fun j10 =>
  if decide (p_x.Kind = 4) then
  j10 An An p_x.Of p_x.Other
  else
  j10 p_x.Who p_x.Race An 0))))) (fun j6 =>
  if (decide (p_x.Kind = 4)) then Option.bind (Gy p_x.Of) (fun r5 =>
  j6 ((decide (p_x.Kind = 4)) && (!r5))) else j6 ((decide (p_x.Kind = 4)) && true))) (fun j5 =>
  if (((decide (p_x.Kind = 1)) || (decide (p_x.Kind = 3))) && (!(Ed p_x.Time 0 360000))) then
  j5 (((decide (p_x.Kind = 1)) || (decide (p_x.Kind = 3))) && (!(Ed p_x.Time 0 360000)))
  else
  j5 ((decide (p_x.Kind = 3)) && (!(Ed p_x.Fault 0 8))))) (fun j3 =>
  if c1 then
  j3 c1
  else
  Gq (fun (c3 : Bool) =>
  j3 c3) (fun j4 =>
  if ((decide (p_x.Kind = 1)) && (!decide (p_x.Club = An))) then Option.bind (Gy p_x.Club) (fun r4 =>
  j4 (((decide (p_x.Kind = 1)) && (!decide (p_x.Club = An))) && (!r4))) else j4 (((decide (p_x.Kind = 1)) && (!decide (p_x.Club = An))) && true)))) (fun j1 =>
  if (!(decide (p_x.Kind = 4))) then Option.bind (Gy p_x.Who) (fun r2 =>
  Gq (fun (c2 : Bool) =>
  j1 ((!(decide (p_x.Kind = 4))) && c2)) (fun j2 =>
  if (!r2) then j2 ((!r2) || true) else Option.bind (Gy p_x.Race) (fun r3 =>
  j2 ((!r2) || (!r3))))) else j1 ((!(decide (p_x.Kind = 4))) && true)))
def Uf (p_x : Int) : Bool :=
  !decide (p_x = p_x)
def Kr (p_x : Int) (p_y : Int) : Int :=
  if (Uf p_x) then
  if (Uf p_y) then
  0
  else
  (-1)
  else
  if (Uf p_y) then
  1
  else
  if decide (p_x < p_y) then
  (-1)
  else
  if decide (p_y < p_x) then
  1
  else
  0
def Nh (j1 : Int) : List Int → Nat → Int
  | [],_=>j1
  | y1 :: ys1,i1=>if !decide (y1 = 0) then
  y1
  else
  Nh j1 ys1 (i1 + 1)
def Uw (p_vals : List Int) : Int :=
  Gq (0) (fun j1 =>
  Nh j1 p_vals 0)
def Kj (p_a : Dx) (p_b : Dx) : Int :=
  (Uw [(Kr p_a.At p_b.At),(Hw p_a.Site p_b.Site),(Kr p_a.No p_b.No)])
def En (p_x : Dx) : Eo :=
  (Eo.mk p_x.Site p_x.No)
def Ir (p_l : List Dx) (j1 : (List (Eo × Bool)) → Bool → Option Int) : List Dx → Nat → (List (Eo × Bool)) → Bool → Option Int
  | [],_,x1,x2=>j1 x1 x2
  | y1 :: ys1,i1,x1,x2=>Option.bind (Ro y1) (fun r1 =>
  if !decide (r1 = 0) then
  some r1
  else
  Gq (fun (x3 : Bool) =>
  if x3 then
  some 7
  else
  Ir p_l j1 ys1 (i1 + 1) (Gw x1 (En y1) true) (x2 || (El x1 (En y1) false))) (fun j2 =>
  if decide (0 < (i1 : Int)) then
  Chk (inB (W ((i1 : Int) - 1)) p_l.length) (
  j2 (decide (0 ≤ (Kj (nth p_l (W ((i1 : Int) - 1))) y1))))
  else
  j2 false))
def Ot (p_l : List Dx) : Option Int :=
  if decide (2000 < (p_l.length : Int)) then
  some 2
  else
  Gq (fun (x1 : List (Eo × Bool)) (x2 : Bool) =>
  if x2 then
  some 6
  else
  some 0) (fun j1 =>
  Ir p_l j1 p_l 0 ([] : List (Eo × Bool)) false)
def Qm (p_s : List Dx) : Option (List Dx) :=
  Chk (decide ((([] : List Dx) : List Dx).length + p_s.length < 1073741824)) (
  some ((([] : List Dx) : List Dx) ++ p_s))
def FI (p_x : Int) : Option Int :=
  Gq (fun (x1 : Int) (x2 : Int) =>
  Gq (fun (x3 : Int) (x4 : Int) =>
  Chk (inB (IntKind.wrap .u8 x3) Qt.size) (
  some (W (x4 + (W (Zs Qt (IntKind.wrap .u8 x3))))))) (fun j2 =>
  if decide (256 ≤ x1) then
  j2 (Hf .u32 x1 8) (W (x2 + 8))
  else
  j2 x1 x2)) (fun j1 =>
  if decide (65536 ≤ p_x) then
  j1 (Hf .u32 p_x 16) 16
  else
  j1 p_x 0)
def BK (p_x : Int) : Option Int :=
  Gq (fun (x1 : Int) (x2 : Int) =>
  Gq (fun (x3 : Int) (x4 : Int) =>
  Gq (fun (x5 : Int) (x6 : Int) =>
  Chk (inB (IntKind.wrap .u8 x5) Qt.size) (
  some (W (x6 + (W (Zs Qt (IntKind.wrap .u8 x5))))))) (fun j3 =>
  if decide (256 ≤ x3) then
  j3 (Hf .u64 x3 8) (W (x4 + 8))
  else
  j3 x3 x4)) (fun j2 =>
  if decide (65536 ≤ x1) then
  j2 (Hf .u64 x1 16) (W (x2 + 16))
  else
  j2 x1 x2)) (fun j1 =>
  if decide (4294967296 ≤ p_x) then
  j1 (Hf .u64 p_x 32) 32
  else
  j1 p_x 0)
def AJ (p_x : Int) : Option Int :=
  if false then
  Option.bind (FI (IntKind.wrap .u32 p_x)) (fun r1 =>
  some r1)
  else
  Option.bind (BK p_x) (fun r2 =>
  some r2)
def Fi (p_a : Int) (j2 : (List Dx) → Option (List Dx)) : Nat → (List Dx) → Int → Option (List Dx)
  | 0,_,_=>none
  | m2 + 1,x3,x4=>Gq (fun (x5 : Bool) =>
  if x5 then
  Chk (inB (W (x4 - 1)) x3.length) (
  Chk (inB x4 x3.length) (
  Chk (inB x4 x3.length) (
  Chk (inB (W (x4 - 1)) (x3.set x4.toNat (nth x3 (W (x4 - 1)))).length) (
  Fi p_a j2 m2 ((x3.set x4.toNat (nth x3 (W (x4 - 1)))).set ((W (x4 - 1)).toNat) (nth x3 x4)) (W (x4 - 1))))))
  else
  j2 x3) (fun j3 =>
  if decide (p_a < x4) then
  Chk (inB x4 x3.length) (
  Chk (inB (W (x4 - 1)) x3.length) (
  j3 (decide ((Kj (nth x3 x4) (nth x3 (W (x4 - 1)))) < 0))))
  else
  j3 false)
def Gg (p_b : Int) (p_a : Int) (j1 : (List Dx) → Option (List Dx)) : Nat → (List Dx) → Int → Option (List Dx)
  | 0,_,_=>none
  | m1 + 1,x1,x2=>if decide (x2 < p_b) then
  Gq (fun (x3 : List Dx) =>
  Gg p_b p_a j1 m1 x3 (W (x2 + 1))) (fun j2 =>
  Fi p_a j2 ((x2 - p_a).toNat + 2) x1 x2)
  else
  j1 x1
def Ix (p_data : List Dx) (p_a : Int) (p_b : Int) : Option (List Dx) :=
  Gq (fun (x1 : List Dx) =>
  some x1) (fun j1 =>
  Gg p_b p_a j1 ((p_b - (W (p_a + 1))).toNat + 2) p_data (W (p_a + 1)))
def Hk (p_data : List Dx) : Nat → Int → Int → Int → Bool → Option (List Dx)
  | 0,_,_,_,_=>none
  | _ + 1,x1,x2,x3,x4=>if decide ((W (x2 - x1)) ≤ 12) then
  Option.bind (Ix p_data x1 x2) (fun r1 =>
  some r1)
  else
  if decide (x3 = 0) then
  none
  else
  if !x4 then
  none
  else
  none
def Ll (p_data : List Dx) (p_a : Int) (p_b : Int) (p_limit : Int) : Option (List Dx) :=
  Hk p_data 4611686018427387904 p_a p_b p_limit true
def Jq (p_x : List Dx) : Option (List Dx) :=
  Option.bind (AJ (IntKind.wrap .u64 (p_x.length : Int))) (fun r1 =>
  Option.bind (Ll p_x 0 (p_x.length : Int) r1) (fun r2 =>
  some r2))
def Pk (j1 : (List (Eo × Dx)) → Option ((List Dx) × Int)) : List Dx → Nat → (List (Eo × Dx)) → Option ((List Dx) × Int)
  | [],_,x1=>j1 x1
  | y1 :: ys1,i1,x1=>Pk j1 ys1 (i1 + 1) (Gw x1 (En y1) y1)
def Nz (x1 : List (Eo × Dx)) (j2 : (List Dx) → Option ((List Dx) × Int)) : List Dx → Nat → (List Dx) → Option ((List Dx) × Int)
  | [],_,x2=>j2 x2
  | y2 :: ys2,i2,x2=>Gq (fun (x3 : List Dx) =>
  Nz x1 j2 ys2 (i2 + 1) x3) (fun j3 =>
  if (((Pi x1 (En y2)).isSome) && (!decide (y2 = (El x1 (En y2) (Dx.mk An 0 0 0 An An An 0 0 An 0))))) then
  some (([] : List Dx),13)
  else
  Gq (fun (x4 : List Dx) =>
  j3 x4) (fun j4 =>
  if !((Pi x1 (En y2)).isSome) then
  Chk (Sq x2.length) (
  j4 (x2 ++ [y2]))
  else
  j4 x2))
def Zf (p_a : List Dx) (p_b : List Dx) : Option ((List Dx) × Int) :=
  Option.bind (Ot p_a) (fun r1 =>
  if !decide (r1 = 0) then
  some (([] : List Dx),r1)
  else
  Option.bind (Ot p_b) (fun r2 =>
  if !decide (r2 = 0) then
  some (([] : List Dx),r2)
  else
  Gq (fun (x1 : List (Eo × Dx)) =>
  Option.bind (Qm p_a) (fun r3 =>
  Gq (fun (x2 : List Dx) =>
  if decide (2000 < (x2.length : Int)) then
  some (([] : List Dx),2)
  else
  Option.bind (Jq x2) (fun r4 =>
  some (r4,0))) (fun j2 =>
  Nz x1 j2 p_b 0 r3))) (fun j1 =>
  Pk j1 p_a 0 ([] : List (Eo × Dx)))))
def Jy (j1 : (List Dx) → Option (List Dx)) : List Dx → Nat → (List Dx) → Option (List Dx)
  | [],_,x1=>j1 x1
  | _ :: ys1,i1,x1=>Chk (inB (i1 : Int) x1.length) (
  Jy j1 ys1 (i1 + 1) (x1.set ((i1 : Int).toNat) (Dx.mk An 0 0 0 An An An 0 0 An 0)))
def Sc (p_l : List Dx) : Option (List Dx) :=
  Gq (fun (x1 : List Dx) =>
  some x1) (fun j1 =>
  Jy j1 p_l 0 p_l)
def Pc (p_r : Em) : Option Int :=
  Option.bind (Gy p_r.Key) (fun r1 =>
  if !r1 then
  some 5
  else
  if ((!(Ed p_r.Stroke 1 5)) || (!(Ed p_r.Sex 0 2))) then
  some 4
  else
  if (((((((!decide (p_r.Course = 25)) && (!decide (p_r.Course = 50))) || (!(Ed p_r.Legs 1 4))) || (!(Ed p_r.Metres 25 1500))) || (decide (p_r.Young < 0))) || (decide (p_r.Old < p_r.Young))) || (decide (120 < p_r.Old))) then
  some 1
  else
  Chk (!decide (p_r.Course = 0)) (
  if !decide ((Int.tmod p_r.Metres p_r.Course) = 0) then
  some 3
  else
  Gq (fun (c1 : Bool) =>
  Gq (fun (x1 : Bool) =>
  if x1 then
  some 16
  else
  some 0) (fun j2 =>
  if c1 then
  j2 c1
  else
  j2 (((decide (p_r.Stroke = 5)) && (decide (1 < p_r.Legs))) && (!decide (p_r.Legs = 4))))) (fun j1 =>
  if ((decide (p_r.Stroke = 5)) && (decide (p_r.Legs = 1))) then Chk (!decide ((W (4 * p_r.Course)) = 0)) (
  j1 (((decide (p_r.Stroke = 5)) && (decide (p_r.Legs = 1))) && (!decide ((Int.tmod p_r.Metres (W (4 * p_r.Course))) = 0)))) else j1 (((decide (p_r.Stroke = 5)) && (decide (p_r.Legs = 1))) && true))))
def Ul (p_x : Em) (p_a1 : Em) : Bool :=
  decide (p_x.Key = p_a1.Key)
def Gm (p_f_0 : Em) (j1 : Int) : List Em → Nat → Int
  | [],_=>j1
  | y1 :: ys1,i1=>if (Ul y1 p_f_0) then
  (i1 : Int)
  else
  Gm p_f_0 j1 ys1 (i1 + 1)
def Lm (p_s : List Em) (p_f_0 : Em) : Int :=
  Gq ((-1)) (fun j1 =>
  Gm p_f_0 j1 p_s 0)
def Jd (p_s : List Em) (p_f_0 : Em) : Bool :=
  decide (0 ≤ (Lm p_s p_f_0))
def Kp (p_t : Mz) (j1 : Option Int) : List Int → Nat → Option Int
  | [],_=>j1
  | y1 :: ys1,i1=>if !(Ed y1 0 10000) then
  some 1
  else
  Gq (fun (c1 : Bool) =>
  if c1 then
  some 7
  else
  Kp p_t j1 ys1 (i1 + 1)) (fun j2 =>
  if (decide (0 < (i1 : Int))) then Chk (inB (W ((i1 : Int) - 1)) p_t.Points.length) (
  j2 ((decide (0 < (i1 : Int))) && (decide ((nth p_t.Points (W ((i1 : Int) - 1))) < y1)))) else j2 ((decide (0 < (i1 : Int))) && true))
def Pt (p_t : Mz) : Option Int :=
  if decide (40 < (p_t.Points.length : Int)) then
  some 2
  else
  Gq (if ((!(Ed p_t.Relay 1 10)) || (!(Ed p_t.Most 0 10))) then
  some 1
  else
  some 0) (fun j1 =>
  Kp p_t j1 p_t.Points 0)
def Ry (p_f : Uh) : Int :=
  if (((!(Ed p_f.Size 1 10)) || (!(Ed p_f.Many 1 5))) || (!(Ed p_f.Reserves 0 10))) then
  1
  else
  0
def Mn (p_p : Kq) (j1 : Option Int) : List Em → Nat → Option Int
  | [],_=>j1
  | y1 :: ys1,i1=>Option.bind (Pc y1) (fun r1 =>
  if !decide (r1 = 0) then
  some r1
  else
  Chk (EM 0 (i1 : Int) p_p.Races.length) (
  if (Jd (cut p_p.Races 0 (i1 : Int)) y1) then
  some 6
  else
  Mn p_p j1 ys1 (i1 + 1)))
def Ux (p_p : Kq) : Option Int :=
  if decide (100 < (p_p.Races.length : Int)) then
  some 2
  else
  Gq (Option.bind (Pt p_p.Table) (fun r2 =>
  if !decide (r2 = 0) then
  some r2
  else
  some (Ry p_p.Final))) (fun j1 =>
  Mn p_p j1 p_p.Races 0)
def Kc (j1 : (List Int) → Option (List Int)) : Nat → (List Int) → Int → Int → Option (List Int)
  | 0,_,_,_=>none
  | m1 + 1,x1,x2,x3=>if decide (x2 < x3) then
  Chk (inB x3 x1.length) (
  Chk (inB x2 x1.length) (
  Chk (inB x2 x1.length) (
  Chk (inB x3 (x1.set x2.toNat (nth x1 x3)).length) (
  Kc j1 m1 ((x1.set x2.toNat (nth x1 x3)).set x3.toNat (nth x1 x2)) (W (x2 + 1)) (W (x3 - 1))))))
  else
  j1 x1
def Pw (p_s : List Int) : Option (List Int) :=
  Gq (fun (x1 : List Int) =>
  some x1) (fun j1 =>
  Kc j1 (((W ((p_s.length : Int) - 1)) - 0).toNat + 2) p_s 0 (W ((p_s.length : Int) - 1)))
  /-- Which of the deeds count,from the last one on. -/
def Xl (l : List Dx) (at_ : Int) (i : Nat) (m : List (Eo × Bool)) : Bool:=decide (at_ < (nth l (i : Int)).At) || El m (En (nth l (i : Int))) false
def Lp (l : List Dx) (at_ : Int) : List Nat → List (Eo × Bool) → List Int → Option (List Int)
  | [],_,x=>Pw x
  | i :: is,m,x=>if Xl l at_ i m then Lp l at_ is m x else
    Chk (Sq x.length) (Lp l at_ is (if decide ((nth l (i : Int)).Kind = 4) then Gw m (Eo.mk ((nth l (i : Int)).Of) ((nth l (i : Int)).Other)) true else m) (x ++ [(i : Int)]))
def Xx (l : List Dx) (at_ : Int) : Option (List Int):=Lp l at_ (Zc l.length) [] []
def Na (p_l : List Dx) (j1 : (List Dx) → Option (Option Lc)) : List Int → Nat → (List Dx) → Option (Option Lc)
  | [],_,x1=>j1 x1
  | y1 :: ys1,i1,x1=>Chk (inB y1 p_l.length) (
  Chk (Sq x1.length) (
  Na p_l j1 ys1 (i1 + 1) (x1 ++ [(nth p_l y1)])))
def Ww (p_p : Kq) (p_l : List Dx) (p_at : Int) : Option (Option Lc) :=
  Option.bind (Xx p_l p_at) (fun r1 =>
  Gq (fun (x1 : List Dx) =>
  some (some (Lc.mk p_p x1))) (fun j1 =>
  Na p_l j1 r1 0 ([] : List Dx)))
def Qa (j1 : Option ((Option Lc) × Int)) : List Int → Nat → Option ((Option Lc) × Int)
  | [],_=>j1
  | y1 :: ys1,i1=>if !(Iz y1) then
  some (none,1)
  else
  Qa j1 ys1 (i1 + 1)
def Zb (p_p : Kq) (p_l : List Dx) (p_at : List Int) : Option ((Option Lc) × Int) :=
  Option.bind (Ux p_p) (fun r1 =>
  if !decide (r1 = 0) then
  some (none,r1)
  else
  Option.bind (Ot p_l) (fun r2 =>
  if !decide (r2 = 0) then
  some (none,r2)
  else
  Gq (Chk (inB (W ((p_at.length : Int) - 1)) p_at.length) (
  Option.bind (Ww p_p p_l (nth p_at (W ((p_at.length : Int) - 1)))) (fun r3 =>
  some (r3,0)))) (fun j1 =>
  Qa j1 p_at 0)))
def Xy (p_r : Em) (p_a1 : ByteArray) : Bool :=
  decide (p_r.Key = p_a1)
def Ha (p_f_0 : ByteArray) (j1 : Int) : List Em → Nat → Int
  | [],_=>j1
  | y1 :: ys1,i1=>if (Xy y1 p_f_0) then
  (i1 : Int)
  else
  Ha p_f_0 j1 ys1 (i1 + 1)
def Hb (p_s : List Em) (p_f_0 : ByteArray) : Int :=
  Gq ((-1)) (fun j1 =>
  Ha p_f_0 j1 p_s 0)
def Pd (p_a : Dx) (p_b : Dx) : Int :=
  (Hw p_a.Who p_b.Who)
def Ez (p_a : Int) (j2 : (List Dx) → Option (List Dx)) : Nat → (List Dx) → Int → Option (List Dx)
  | 0,_,_=>none
  | m2 + 1,x3,x4=>Gq (fun (x5 : Bool) =>
  if x5 then
  Chk (inB (W (x4 - 1)) x3.length) (
  Chk (inB x4 x3.length) (
  Chk (inB x4 x3.length) (
  Chk (inB (W (x4 - 1)) (x3.set x4.toNat (nth x3 (W (x4 - 1)))).length) (
  Ez p_a j2 m2 ((x3.set x4.toNat (nth x3 (W (x4 - 1)))).set ((W (x4 - 1)).toNat) (nth x3 x4)) (W (x4 - 1))))))
  else
  j2 x3) (fun j3 =>
  if decide (p_a < x4) then
  Chk (inB x4 x3.length) (
  Chk (inB (W (x4 - 1)) x3.length) (
  j3 (decide ((Pd (nth x3 x4) (nth x3 (W (x4 - 1)))) < 0))))
  else
  j3 false)
def Fu (p_b : Int) (p_a : Int) (j1 : (List Dx) → Option (List Dx)) : Nat → (List Dx) → Int → Option (List Dx)
  | 0,_,_=>none
  | m1 + 1,x1,x2=>if decide (x2 < p_b) then
  Gq (fun (x3 : List Dx) =>
  Fu p_b p_a j1 m1 x3 (W (x2 + 1))) (fun j2 =>
  Ez p_a j2 ((x2 - p_a).toNat + 2) x1 x2)
  else
  j1 x1
def Il (p_data : List Dx) (p_a : Int) (p_b : Int) : Option (List Dx) :=
  Gq (fun (x1 : List Dx) =>
  some x1) (fun j1 =>
  Fu p_b p_a j1 ((p_b - (W (p_a + 1))).toNat + 2) p_data (W (p_a + 1)))
def Hc (p_data : List Dx) : Nat → Int → Int → Int → Bool → Option (List Dx)
  | 0,_,_,_,_=>none
  | _ + 1,x1,x2,x3,x4=>if decide ((W (x2 - x1)) ≤ 12) then
  Option.bind (Il p_data x1 x2) (fun r1 =>
  some r1)
  else
  if decide (x3 = 0) then
  none
  else
  if !x4 then
  none
  else
  none
def Ki (p_data : List Dx) (p_a : Int) (p_b : Int) (p_limit : Int) : Option (List Dx) :=
  Hc p_data 4611686018427387904 p_a p_b p_limit true
def Jz (p_x : List Dx) : Option (List Dx) :=
  Option.bind (AJ (IntKind.wrap .u64 (p_x.length : Int))) (fun r1 =>
  Option.bind (Ki p_x 0 (p_x.length : Int) r1) (fun r2 =>
  some r2))
def Mj (p_race : ByteArray) (j1 : (List (ByteArray × Dx)) → Option (List Dx)) : List Dx → Nat → (List (ByteArray × Dx)) → Option (List Dx)
  | [],_,x1=>j1 x1
  | y1 :: ys1,i1,x1=>Gq (fun (x2 : List (ByteArray × Dx)) =>
  Mj p_race j1 ys1 (i1 + 1) x2) (fun j2 =>
  if !decide (y1.Race = p_race) then
  j2 x1
  else
  Gq (fun (x3 : List (ByteArray × Dx)) =>
  j2 x3) (fun j3 =>
  Gq (fun (x4 : List (ByteArray × Dx)) =>
  j3 x4) (fun j4 =>
  if decide (y1.Kind = 1) then
  j4 (Gw x1 y1.Who y1)
  else
  Gq (fun (x5 : List (ByteArray × Dx)) =>
  j4 x5) (fun j5 =>
  if decide (y1.Kind = 2) then
  j5 (CD x1 y1.Who)
  else
  j5 x1))))
def Ni (j6 : (List Dx) → Option (List Dx)) : List (ByteArray × Dx) → (List Dx) → Option (List Dx)
  | [],x6=>j6 x6
  | y2 :: ys2,x6=>Option.bind (α:=(List Dx)) (
  Chk (Sq x6.length) (
  some (x6 ++ [y2.2]))) (fun s=>Ni j6 ys2 s)
def Qx (p_s_p : Kq) (p_s_deeds : List Dx) (p_race : ByteArray) : Option (List Dx) :=
  Gq (fun (x1 : List (ByteArray × Dx)) =>
  Gq (fun (x6 : List Dx) =>
  Option.bind (Jz x6) (fun r1 =>
  some r1)) (fun j6 =>
  RD x1 (fun p=>Ni j6 p ([] : List Dx)))) (fun j1 =>
  Mj p_race j1 p_s_deeds 0 ([] : List (ByteArray × Dx)))
def Xm (p_s_p : Kq) (p_s_deeds : List Dx) (p_key : ByteArray) : Option (Em × Int) :=
  if decide ((Hb p_s_p.Races p_key) < 0) then
  some ((Em.mk An 0 0 0 0 0 0 0),8)
  else
  Option.bind (Qx p_s_p p_s_deeds p_key) (fun r1 =>
  if decide (300 < (r1.length : Int)) then
  some ((Em.mk An 0 0 0 0 0 0 0),2)
  else
  Chk (inB (Hb p_s_p.Races p_key) p_s_p.Races.length) (
  some ((nth p_s_p.Races (Hb p_s_p.Races p_key)),0)))
def CV (p_p : Kq) (p_l : List Dx) (p_race : ByteArray) (p_at : Int) : Option ((Option Lc) × Em × Int) :=
  Option.bind (Zb p_p p_l ([p_at] : List Int)) (fun r1 =>
  if !decide (r1.2 = 0) then
  some (none,(Em.mk An 0 0 0 0 0 0 0),r1.2)
  else
  Option.bind (r1.1) (fun r2 =>
  Option.bind (Xm r2.p_ r2.deeds_ p_race) (fun r3 =>
  some (some r2,r3.1,r3.2))))
def Pl (p_race : ByteArray) (j1 : (List (ByteArray × Dx)) → (List (ByteArray × Dx))) : List Dx → Nat → (List (ByteArray × Dx)) → (List (ByteArray × Dx))
  | [],_,x1=>j1 x1
  | y1 :: ys1,i1,x1=>Gq (fun (x2 : List (ByteArray × Dx)) =>
  Pl p_race j1 ys1 (i1 + 1) x2) (fun j2 =>
  Gq (fun (x3 : List (ByteArray × Dx)) =>
  j2 x3) (fun j3 =>
  if ((decide (y1.Race = p_race)) && (decide (y1.Kind = 3))) then
  j3 (Gw x1 y1.Who y1)
  else
  j3 x1))
def Ii (p_s_p : Kq) (p_s_deeds : List Dx) (p_race : ByteArray) : (List (ByteArray × Dx)) :=
  Gq (fun (x1 : List (ByteArray × Dx)) =>
  x1) (fun j1 =>
  Pl p_race j1 p_s_deeds 0 ([] : List (ByteArray × Dx)))
def Lw (j1 : (List (ByteArray × Bool)) → Bool → Option Int) : List Kg → Nat → (List (ByteArray × Bool)) → Bool → Option Int
  | [],_,x1,x2=>j1 x1 x2
  | y1 :: ys1,i1,x1,x2=>Option.bind (Gy y1.Who) (fun r1 =>
  if !r1 then
  some 5
  else
  if !(Ed y1.Time 0 360000) then
  some 1
  else
  Lw j1 ys1 (i1 + 1) (Gw x1 y1.Who true) (x2 || (El x1 y1.Who false)))
def Ty (p_l : List Kg) : Option Int :=
  if decide (300 < (p_l.length : Int)) then
  some 2
  else
  Gq (fun (x1 : List (ByteArray × Bool)) (x2 : Bool) =>
  if x2 then
  some 6
  else
  some 0) (fun j1 =>
  Lw j1 p_l 0 ([] : List (ByteArray × Bool)) false)
def Jm (p_v : List Iw) (j1 : Option Int) : List Iw → Nat → Option Int
  | [],_=>j1
  | y1 :: ys1,i1=>Option.bind (Gy y1.Who) (fun r2 =>
  if !r2 then
  some 5
  else
  if !(Ed y1.Fault 0 8) then
  some 4
  else
  Gq (fun (c1 : Bool) =>
  if c1 then
  some 7
  else
  Jm p_v j1 ys1 (i1 + 1)) (fun j2 =>
  if (decide (0 < (i1 : Int))) then Chk (inB (W ((i1 : Int) - 1)) p_v.length) (
  j2 ((decide (0 < (i1 : Int))) && (FZ y1.Who ((nth p_v (W ((i1 : Int) - 1))).Who) || decide (y1.Who = ((nth p_v (W ((i1 : Int) - 1))).Who))))) else j2 ((decide (0 < (i1 : Int))) && true)))
def Qr (p_v : List Iw) : Option Int :=
  if decide (300 < (p_v.length : Int)) then
  some 2
  else
  Gq (some 0) (fun j1 =>
  Jm p_v j1 p_v 0)
def Vy (p_a : Eb) (p_b : Eb) (p_a2 : Int) : Option Int :=
  Chk (!decide (p_a2 = 0)) (
  Chk (!decide (p_a2 = 0)) (
  some (W ((W (Int.tdiv p_a.Time p_a2)) - (W (Int.tdiv p_b.Time p_a2))))))
def Fa (p_a : Int) (p_cmp_0 : Int) (j2 : (List Eb) → Option (List Eb)) : Nat → (List Eb) → Int → Option (List Eb)
  | 0,_,_=>none
  | m2 + 1,x3,x4=>Gq (fun (x5 : Bool) =>
  if x5 then
  Chk (inB (W (x4 - 1)) x3.length) (
  Chk (inB x4 x3.length) (
  Chk (inB x4 x3.length) (
  Chk (inB (W (x4 - 1)) (x3.set x4.toNat (nth x3 (W (x4 - 1)))).length) (
  Fa p_a p_cmp_0 j2 m2 ((x3.set x4.toNat (nth x3 (W (x4 - 1)))).set ((W (x4 - 1)).toNat) (nth x3 x4)) (W (x4 - 1))))))
  else
  j2 x3) (fun j3 =>
  if decide (p_a < x4) then
  Chk (inB x4 x3.length) (
  Chk (inB (W (x4 - 1)) x3.length) (
  Option.bind (Vy (nth x3 x4) (nth x3 (W (x4 - 1))) p_cmp_0) (fun r1 =>
  j3 (decide (r1 < 0)))))
  else
  j3 false)
def Fw (p_b : Int) (p_a : Int) (p_cmp_0 : Int) (j1 : (List Eb) → Option (List Eb)) : Nat → (List Eb) → Int → Option (List Eb)
  | 0,_,_=>none
  | m1 + 1,x1,x2=>if decide (x2 < p_b) then
  Gq (fun (x3 : List Eb) =>
  Fw p_b p_a p_cmp_0 j1 m1 x3 (W (x2 + 1))) (fun j2 =>
  Fa p_a p_cmp_0 j2 ((x2 - p_a).toNat + 2) x1 x2)
  else
  j1 x1
def Hy (p_data : List Eb) (p_a : Int) (p_b : Int) (p_cmp_0 : Int) : Option (List Eb) :=
  Gq (fun (x1 : List Eb) =>
  some x1) (fun j1 =>
  Fw p_b p_a p_cmp_0 j1 ((p_b - (W (p_a + 1))).toNat + 2) p_data (W (p_a + 1)))
def Gt (p_n : Int) (p_cmp_0 : Int) (j1 : (List Eb) → Int → Option (List Eb)) : Nat → (List Eb) → Int → Int → Option (List Eb)
  | 0,_,_,_=>none
  | m1 + 1,x1,x2,x3=>if decide (x3 ≤ p_n) then
  Option.bind (Hy x1 x2 x3 p_cmp_0) (fun r1 =>
  Gt p_n p_cmp_0 j1 m1 r1 x3 (W (x3 + 20)))
  else
  j1 x1 x2
def Ht (p_n : Int) (j3 : Int → Option (List Eb)) : Nat → Int → Int → Option (List Eb)
  | 0,_,_=>none
  | _ + 1,x5,x6=>if decide (x6 ≤ p_n) then
  none
  else
  j3 x5
def Gu (p_n : Int) (j2 : Option (List Eb)) : Nat → Int → Option (List Eb)
  | 0,_=>none
  | m2 + 1,x4=>if decide (x4 < p_n) then
  Gq (fun (x5 : Int) =>
  if decide ((W (x5 + x4)) < p_n) then
  none
  else
  Gu p_n j2 m2 (W (x4 * 2))) (fun j3 =>
  Ht p_n j3 ((p_n - (W (2 * x4))).toNat + 2) 0 (W (2 * x4)))
  else
  j2
def Ks (p_data : List Eb) (p_n : Int) (p_cmp_0 : Int) : Option (List Eb) :=
  Gq (fun (x1 : List Eb) (x2 : Int) =>
  Option.bind (Hy x1 x2 p_n p_cmp_0) (fun r2 =>
  Gq (some r2) (fun j2 =>
  Gu p_n j2 ((p_n - 20).toNat + 2) 20))) (fun j1 =>
  Gt p_n p_cmp_0 j1 ((p_n - 20).toNat + 2) p_data 0 20)
def Je (p_x : List Eb) (p_cmp_0 : Int) : Option (List Eb) :=
  Option.bind (Ks p_x (p_x.length : Int) p_cmp_0) (fun r1 =>
  some r1)
def Pm (j1 : (List (ByteArray × Int)) → Option ((List Eb) × Int)) : List Iw → Nat → (List (ByteArray × Int)) → Option ((List Eb) × Int)
  | [],_,x1=>j1 x1
  | y1 :: ys1,i1,x1=>Pm j1 ys1 (i1 + 1) (Gw x1 y1.Who y1.Fault)
def Ok (x1 : List (ByteArray × Int)) (j2 : (List Eb) → (List Eb) → Option ((List Eb) × Int)) : List Kg → Nat → (List Eb) → (List Eb) → Option ((List Eb) × Int)
  | [],_,x2,x3=>j2 x2 x3
  | y2 :: ys2,i2,x2,x3=>Gq (fun (x4 : List Eb) (x5 : List Eb) =>
  Ok x1 j2 ys2 (i2 + 1) x4 x5) (fun j3 =>
  Gq (fun (x6 : List Eb) (x7 : List Eb) =>
  j3 x6 x7) (fun j4 =>
  if ((decide ((El x1 y2.Who 0) = 0)) && (decide (0 < y2.Time))) then
  Chk (Sq x3.length) (
  j4 x2 (x3 ++ [(Eb.mk y2.Who 0 y2.Time (El x1 y2.Who 0))]))
  else
  Chk (Sq x2.length) (
  j4 (x2 ++ [(Eb.mk y2.Who 0 y2.Time (El x1 y2.Who 0))]) x3)))
def Ol (p_by : Int) (j5 : (List Eb) → Option ((List Eb) × Int)) : List Eb → Nat → (List Eb) → Option ((List Eb) × Int)
  | [],_,x8=>j5 x8
  | _ :: ys3,i3,x8=>Gq (fun (x9 : List Eb) =>
  Ol p_by j5 ys3 (i3 + 1) x9) (fun j6 =>
  Gq (fun (c1 : Bool) =>
  Gq (fun (x10 : List Eb) =>
  j6 x10) (fun j8 =>
  if c1 then
  Chk (inB (W ((i3 : Int) - 1)) x8.length) (
  Chk (inB (i3 : Int) x8.length) (
  j8 (x8.set ((i3 : Int).toNat) (Eb.mk ((nth x8 (i3 : Int)).Who) ((nth x8 (W ((i3 : Int) - 1))).Rank) ((nth x8 (i3 : Int)).Time) ((nth x8 (i3 : Int)).Fault)))))
  else
  Chk (inB (i3 : Int) x8.length) (
  j8 (x8.set ((i3 : Int).toNat) (Eb.mk ((nth x8 (i3 : Int)).Who) (W ((i3 : Int) + 1)) ((nth x8 (i3 : Int)).Time) ((nth x8 (i3 : Int)).Fault)))))) (fun j7 =>
  if (decide (0 < (i3 : Int))) then Chk (inB (i3 : Int) x8.length) (
  Chk (!decide (p_by = 0)) (
  Chk (inB (W ((i3 : Int) - 1)) x8.length) (
  Chk (!decide (p_by = 0)) (
  j7 ((decide (0 < (i3 : Int))) && (decide ((W (Int.tdiv ((nth x8 (i3 : Int)).Time) p_by)) = (W (Int.tdiv ((nth x8 (W ((i3 : Int) - 1))).Time) p_by))))))))) else j7 ((decide (0 < (i3 : Int))) && true)))
def BL (p_l : List Kg) (p_v : List Iw) (p_by : Int) : Option ((List Eb) × Int) :=
  Option.bind (Ty p_l) (fun r1 =>
  if !decide (r1 = 0) then
  some (([] : List Eb),r1)
  else
  Option.bind (Qr p_v) (fun r2 =>
  if !decide (r2 = 0) then
  some (([] : List Eb),r2)
  else
  Gq (fun (x1 : List (ByteArray × Int)) =>
  Gq (fun (x2 : List Eb) (x3 : List Eb) =>
  Option.bind (Je x3 p_by) (fun r4 =>
  Gq (fun (x8 : List Eb) =>
  Chk (decide (x8.length + x2.length < 1073741824)) (
  some ((x8 ++ x2),0))) (fun j5 =>
  Ol p_by j5 r4 0 r4))) (fun j2 =>
  Ok x1 j2 p_l 0 ([] : List Eb) ([] : List Eb))) (fun j1 =>
  Pm j1 p_v 0 ([] : List (ByteArray × Int)))))
def Xn (p_l : List Kg) (p_v : List Iw) : Option ((List Eb) × Int) :=
  Option.bind (BL p_l p_v 1) (fun r1 =>
  some (r1.1,r1.2))
def Nb (p_s_p : Kq) (p_s_deeds : List Dx) (p_race : ByteArray) (j1 : (List Iw) → (List Kg) → (List (ByteArray × ByteArray)) → Option ((List Eb) × (List (ByteArray × ByteArray)) × Int)) : List Dx → Nat → (List Iw) → (List Kg) → (List (ByteArray × ByteArray)) → Option ((List Eb) × (List (ByteArray × ByteArray)) × Int)
  | [],_,x1,x2,x3=>j1 x1 x2 x3
  | y1 :: ys1,i1,x1,x2,x3=>Gq (fun (x4 : List Iw) (x5 : List Kg) (x6 : List (ByteArray × ByteArray)) =>
  Nb p_s_p p_s_deeds p_race j1 ys1 (i1 + 1) x4 x5 x6) (fun j2 =>
  if !((Pi (Ii p_s_p p_s_deeds p_race) y1.Who).isSome) then
  j2 x1 x2 x3
  else
  Chk (Sq x2.length) (
  Gq (fun (x7 : List Iw) =>
  j2 x7 (x2 ++ [(Kg.mk y1.Who ((El (Ii p_s_p p_s_deeds p_race) y1.Who (Dx.mk An 0 0 0 An An An 0 0 An 0)).Time))]) (Gw x3 y1.Who y1.Club)) (fun j3 =>
  if decide (0 < ((El (Ii p_s_p p_s_deeds p_race) y1.Who (Dx.mk An 0 0 0 An An An 0 0 An 0)).Fault)) then
  Chk (Sq x1.length) (
  j3 (x1 ++ [(Iw.mk y1.Who ((El (Ii p_s_p p_s_deeds p_race) y1.Who (Dx.mk An 0 0 0 An An An 0 0 An 0)).Fault) ([] : List ByteArray))]))
  else
  j3 x1)))
def Wx (p_s_p : Kq) (p_s_deeds : List Dx) (p_race : ByteArray) : Option ((List Eb) × (List (ByteArray × ByteArray)) × Int) :=
  Option.bind (Qx p_s_p p_s_deeds p_race) (fun r1 =>
  Gq (fun (x1 : List Iw) (x2 : List Kg) (x3 : List (ByteArray × ByteArray)) =>
  Option.bind (Xn x2 x1) (fun r2 =>
  some (r2.1,x3,r2.2))) (fun j1 =>
  Nb p_s_p p_s_deeds p_race j1 r1 0 ([] : List Iw) ([] : List Kg) ([] : List (ByteArray × ByteArray))))
def Oc (p_a : Dy) (p_b : Dy) : Int :=
  if !decide ((decide (p_a.Rank = 0)) = (decide (p_b.Rank = 0))) then
  W (p_b.Rank - p_a.Rank)
  else
  if !decide (p_a.Rank = p_b.Rank) then
  W (p_a.Rank - p_b.Rank)
  else
  (Hw p_a.Who p_b.Who)
def Ex (p_a : Int) (j2 : (List Dy) → Option (List Dy)) : Nat → (List Dy) → Int → Option (List Dy)
  | 0,_,_=>none
  | m2 + 1,x3,x4=>Gq (fun (x5 : Bool) =>
  if x5 then
  Chk (inB (W (x4 - 1)) x3.length) (
  Chk (inB x4 x3.length) (
  Chk (inB x4 x3.length) (
  Chk (inB (W (x4 - 1)) (x3.set x4.toNat (nth x3 (W (x4 - 1)))).length) (
  Ex p_a j2 m2 ((x3.set x4.toNat (nth x3 (W (x4 - 1)))).set ((W (x4 - 1)).toNat) (nth x3 x4)) (W (x4 - 1))))))
  else
  j2 x3) (fun j3 =>
  if decide (p_a < x4) then
  Chk (inB x4 x3.length) (
  Chk (inB (W (x4 - 1)) x3.length) (
  j3 (decide ((Oc (nth x3 x4) (nth x3 (W (x4 - 1)))) < 0))))
  else
  j3 false)
def Fp (p_b : Int) (p_a : Int) (j1 : (List Dy) → Option (List Dy)) : Nat → (List Dy) → Int → Option (List Dy)
  | 0,_,_=>none
  | m1 + 1,x1,x2=>if decide (x2 < p_b) then
  Gq (fun (x3 : List Dy) =>
  Fp p_b p_a j1 m1 x3 (W (x2 + 1))) (fun j2 =>
  Ex p_a j2 ((x2 - p_a).toNat + 2) x1 x2)
  else
  j1 x1
def Hq (p_data : List Dy) (p_a : Int) (p_b : Int) : Option (List Dy) :=
  Gq (fun (x1 : List Dy) =>
  some x1) (fun j1 =>
  Fp p_b p_a j1 ((p_b - (W (p_a + 1))).toNat + 2) p_data (W (p_a + 1)))
def Gk (p_n : Int) (j1 : (List Dy) → Int → Option (List Dy)) : Nat → (List Dy) → Int → Int → Option (List Dy)
  | 0,_,_,_=>none
  | m1 + 1,x1,x2,x3=>if decide (x3 ≤ p_n) then
  Option.bind (Hq x1 x2 x3) (fun r1 =>
  Gk p_n j1 m1 r1 x3 (W (x3 + 20)))
  else
  j1 x1 x2
def Hl (p_n : Int) (j3 : Int → Option (List Dy)) : Nat → Int → Int → Option (List Dy)
  | 0,_,_=>none
  | _ + 1,x5,x6=>if decide (x6 ≤ p_n) then
  none
  else
  j3 x5
def Gl (p_n : Int) (j2 : Option (List Dy)) : Nat → Int → Option (List Dy)
  | 0,_=>none
  | m2 + 1,x4=>if decide (x4 < p_n) then
  Gq (fun (x5 : Int) =>
  if decide ((W (x5 + x4)) < p_n) then
  none
  else
  Gl p_n j2 m2 (W (x4 * 2))) (fun j3 =>
  Hl p_n j3 ((p_n - (W (2 * x4))).toNat + 2) 0 (W (2 * x4)))
  else
  j2
def Ka (p_data : List Dy) (p_n : Int) : Option (List Dy) :=
  Gq (fun (x1 : List Dy) (x2 : Int) =>
  Option.bind (Hq x1 x2 p_n) (fun r2 =>
  Gq (some r2) (fun j2 =>
  Gl p_n j2 ((p_n - 20).toNat + 2) 20))) (fun j1 =>
  Gk p_n j1 ((p_n - 20).toNat + 2) p_data 0 20)
def Ho (p_x : List Dy) : Option (List Dy) :=
  Option.bind (Ka p_x (p_x.length : Int)) (fun r1 =>
  some r1)
def Md (p_a : Int) (p_b : Int) : Int :=
  Gq (fun (x1 : Int) =>
  Gq (fun (x2 : Int) =>
  W (x1 - x2)) (fun j2 =>
  if decide (p_b = 0) then
  j2 301
  else
  j2 p_b)) (fun j1 =>
  if decide (p_a = 0) then
  j1 301
  else
  j1 p_a)
def Tb (p_a : Dy) (p_b : Dy) : Int :=
  (Uw [(Hw p_a.Race p_b.Race),(Md p_a.Rank p_b.Rank),(Hw p_a.Who p_b.Who)])
def Oa (p_l : List Dy) (x2 : Int) (j2 : Int → Option (List (List Dy))) : Nat → Int → Option (List (List Dy))
  | 0,_=>none
  | m2 + 1,x3=>Gq (fun (c1 : Bool) =>
  if c1 then
  Oa p_l x2 j2 m2 (W (x3 + 1))
  else
  j2 x3) (fun j3 =>
  if (decide (x3 < (p_l.length : Int))) then Chk (inB x3 p_l.length) (
  Chk (inB x2 p_l.length) (
  j3 ((decide (x3 < (p_l.length : Int))) && (decide (((nth p_l x3).Race) = ((nth p_l x2).Race)))))) else j3 ((decide (x3 < (p_l.length : Int))) && true))
def Mf (p_l : List Dy) (j1 : (List (List Dy)) → Option (List (List Dy))) : Nat → (List (List Dy)) → Int → Option (List (List Dy))
  | 0,_,_=>none
  | m1 + 1,x1,x2=>if decide (x2 < (p_l.length : Int)) then
  Gq (fun (x3 : Int) =>
  Chk (EM x2 x3 p_l.length) (
  Chk (Sq x1.length) (
  Mf p_l j1 m1 (x1 ++ [cut p_l x2 x3]) x3))) (fun j2 =>
  Oa p_l x2 j2 (((p_l.length : Int) - (W (x2 + 1))).toNat + 2) (W (x2 + 1)))
  else
  j1 x1
def Tk (p_l : List Dy) : Option (List (List Dy)) :=
  Gq (fun (x1 : List (List Dy)) =>
  some x1) (fun j1 =>
  Mf p_l j1 (((p_l.length : Int) - 0).toNat + 2) ([] : List (List Dy)) 0)
def Tl (p_x : Dy) (p_a1 : List Dy) : Option Bool :=
  Chk (inB 0 p_a1.length) (
  some (!decide (p_x.Relay = ((nth p_a1 0).Relay))))
def Gb (p_f_0 : List Dy) (j1 : Option Int) : List Dy → Nat → Option Int
  | [],_=>j1
  | y1 :: ys1,i1=>Option.bind (Tl y1 p_f_0) (fun r1 =>
  if r1 then
  some (i1 : Int)
  else
  Gb p_f_0 j1 ys1 (i1 + 1))
def Kk (p_s : List Dy) (p_f_0 : List Dy) : Option Int :=
  Gq (some (-1)) (fun j1 =>
  Gb p_f_0 j1 p_s 0)
def Jv (p_s : List Dy) (p_f_0 : List Dy) : Option Bool :=
  Option.bind (Kk p_s p_f_0) (fun r1 =>
  some (decide (0 ≤ r1)))
def Lx (j1 : (List (Fv × Bool)) → Option Int) : List Dy → Nat → (List (Fv × Bool)) → Option Int
  | [],_,x1=>j1 x1
  | y1 :: ys1,i1,x1=>if El x1 (Fv.mk y1.Race y1.Who) false then
  some 6
  else
  Lx j1 ys1 (i1 + 1) (Gw x1 (Fv.mk y1.Race y1.Who) true)
def Kx (j2 : Option Int) : List (List Dy) → Nat → Option Int
  | [],_=>j2
  | y2 :: ys2,i2=>Option.bind (Jv y2 y2) (fun r3 =>
  if r3 then
  some 3
  else
  Kx j2 ys2 (i2 + 1))
def Ly (y3 : (List Dy)) (j4 : Option Int) : List Dy → Nat → Option Int
  | [],_=>j4
  | y4 :: ys4,i4=>Gq (fun (c1 : Bool) =>
  if c1 then
  some 16
  else
  Ly y3 j4 ys4 (i4 + 1)) (fun j5 =>
  if ((decide (0 < y4.Rank)) && (!decide (y4.Rank = (W ((i4 : Int) + 1))))) then Gq (fun (c2 : Bool) =>
  j5 (((decide (0 < y4.Rank)) && (!decide (y4.Rank = (W ((i4 : Int) + 1))))) && c2)) (fun j6 =>
  if (decide ((i4 : Int) = 0)) then j6 ((decide ((i4 : Int) = 0)) || true) else Chk (inB (W ((i4 : Int) - 1)) y3.length) (
  j6 ((decide ((i4 : Int) = 0)) || (!decide (y4.Rank = ((nth y3 (W ((i4 : Int) - 1))).Rank)))))) else j5 (((decide (0 < y4.Rank)) && (!decide (y4.Rank = (W ((i4 : Int) + 1))))) && true))
def Kf (j3 : Option Int) : List (List Dy) → Nat → Option Int
  | [],_=>j3
  | y3 :: ys3,i3=>Gq (Kf j3 ys3 (i3 + 1)) (fun j4 =>
  Ly y3 j4 y3 0)
def Mw (y5 : (List Dy)) (j8 : Option Int) : Nat → Int → Option Int
  | 0,_=>none
  | m1 + 1,x2=>if decide (x2 < (y5.length : Int)) then
  Chk (inB x2 y5.length) (
  Gq (fun (c3 : Bool) =>
  if c3 then
  some 12
  else
  Mw y5 j8 m1 (W (x2 + 1))) (fun j9 =>
  if (decide (0 < ((nth y5 x2).Rank))) then Chk (inB x2 y5.length) (
  Chk (inB (W (x2 - 10)) y5.length) (
  j9 ((decide (0 < ((nth y5 x2).Rank))) && (decide (((nth y5 x2).Rank) = ((nth y5 (W (x2 - 10))).Rank)))))) else j9 ((decide (0 < ((nth y5 x2).Rank))) && true)))
  else
  j8
def Ky (j7 : Option Int) : List (List Dy) → Nat → Option Int
  | [],_=>j7
  | y5 :: ys5,i5=>Gq (Ky j7 ys5 (i5 + 1)) (fun j8 =>
  Mw y5 j8 (((y5.length : Int) - 10).toNat + 2) 10)
def Rz (p_l : List Dy) : Option Int :=
  Gq (fun (x1 : List (Fv × Bool)) =>
  Option.bind (Tk p_l) (fun r1 =>
  Gq (Gq (Gq (some 0) (fun j7 =>
  Ky j7 r1 0)) (fun j3 =>
  Kf j3 r1 0)) (fun j2 =>
  Kx j2 r1 0))) (fun j1 =>
  Lx j1 p_l 0 ([] : List (Fv × Bool)))
def Kd (p_l : List Dy) (j1 : Option Int) : List Dy → Nat → Option Int
  | [],_=>j1
  | y1 :: ys1,i1=>Option.bind (Gy y1.Race) (fun r1 =>
  Gq (fun (c1 : Bool) =>
  Gq (fun (c2 : Bool) =>
  if c2 then
  some 5
  else
  if !(Ed y1.Rank 0 300) then
  some 1
  else
  Gq (fun (x1 : Bool) =>
  if x1 then
  some 7
  else
  Kd p_l j1 ys1 (i1 + 1)) (fun j5 =>
  if decide (0 < (i1 : Int)) then
  Chk (inB (W ((i1 : Int) - 1)) p_l.length) (
  j5 (decide (0 ≤ (Tb (nth p_l (W ((i1 : Int) - 1))) y1))))
  else
  j5 false)) (fun j3 =>
  if c1 then j3 (c1 || true) else Gq (fun (c3 : Bool) =>
  j3 (c1 || c3)) (fun j4 =>
  if (!decide (y1.Club = An)) then Option.bind (Gy y1.Club) (fun r3 =>
  j4 ((!decide (y1.Club = An)) && (!r3))) else j4 ((!decide (y1.Club = An)) && true)))) (fun j2 =>
  if (!r1) then j2 ((!r1) || true) else Option.bind (Gy y1.Who) (fun r2 =>
  j2 ((!r1) || (!r2)))))
def Rp (p_l : List Dy) : Option Int :=
  if decide (2000 < (p_l.length : Int)) then
  some 2
  else
  Gq (Option.bind (Rz p_l) (fun r4 =>
  some r4)) (fun j1 =>
  Kd p_l j1 p_l 0)
def Tc (p_t : Mz) (p_l : List Dy) : Option Int :=
  Option.bind (Pt p_t) (fun r1 =>
  if !decide (r1 = 0) then
  some r1
  else
  Option.bind (Rp p_l) (fun r2 =>
  some r2))
def Mb : Ee :=
  (Ee.mk 0 1)
def Mo (j1 : Int → Option Ee) : Nat → Int → Int → Option Ee
  | 0,_,_=>none
  | m1 + 1,x1,x2=>if decide (0 < x1) then
  Chk (!decide (x1 = 0)) (
  Mo j1 m1 (Int.tmod x2 x1) x1)
  else
  j1 x2
def Qf (p_a : Int) (p_b : Int) : Option Ee :=
  Gq (fun (x2 : Int) =>
  Chk (!decide (x2 = 0)) (
  Chk (!decide (x2 = 0)) (
  some (Ee.mk (W (Int.tdiv p_a x2)) (W (Int.tdiv p_b x2)))))) (fun j1 =>
  Mo j1 ((p_a - 0).toNat + 2) p_a p_b)
def Nt (p_t : Mz) (j1 : (List (ByteArray × Int)) → (List Int) → (List Eg) → Option (List Eg)) : List Dy → Nat → (List (ByteArray × Int)) → (List Int) → (List Eg) → Option (List Eg)
  | [],_,x1,x2,x3=>j1 x1 x2 x3
  | y1 :: ys1,i1,x1,x2,x3=>Gq (fun (x4 : List (ByteArray × Int)) (x5 : List Int) (x6 : List Eg) =>
  Nt p_t j1 ys1 (i1 + 1) x4 x5 x6) (fun j2 =>
  if ((decide (y1.Rank = 0)) || (decide (y1.Club = An))) then
  j2 x1 x2 x3
  else
  Gq (fun (x7 : List Int) =>
  Chk (Sq x3.length) (
  j2 (Gw x1 y1.Club (W ((El x1 y1.Club 0) + 1))) x7 (x3 ++ [(Eg.mk y1 Mb)]))) (fun j3 =>
  if ((decide (p_t.Most = 0)) || (decide ((El (Gw x1 y1.Club (W ((El x1 y1.Club 0) + 1))) y1.Club 0) ≤ p_t.Most))) then
  Chk (Sq x2.length) (
  j3 (x2 ++ [(x3.length : Int)]))
  else
  j3 x2))
def Nu (p_t : Mz) (x2 : List Int) (x8 : List Eg) (x9 : Int) (j5 : Int → Int → Option (List Eg)) : Nat → Int → Int → Option (List Eg)
  | 0,_,_=>none
  | m2 + 1,x10,x11=>Gq (fun (c1 : Bool) =>
  if c1 then
  Gq (fun (x12 : Int) =>
  Nu p_t x2 x8 x9 j5 m2 (W (x10 + 1)) x12) (fun j7 =>
  Gq (fun (x13 : Int) =>
  j7 x13) (fun j8 =>
  if decide (x10 < (p_t.Points.length : Int)) then
  Chk (inB x10 p_t.Points.length) (
  j8 (W (x11 + (nth p_t.Points x10))))
  else
  j8 x11))
  else
  j5 x10 x11) (fun j6 =>
  if (decide (x10 < (x2.length : Int))) then Chk (inB x10 x2.length) (
  Chk (inB (nth x2 x10) x8.length) (
  Chk (inB x9 x2.length) (
  Chk (inB (nth x2 x9) x8.length) (
  j6 ((decide (x10 < (x2.length : Int))) && (decide ((((nth x8 (nth x2 x10)).x_).Rank) = (((nth x8 (nth x2 x9)).x_).Rank)))))))) else j6 ((decide (x10 < (x2.length : Int))) && true))
def Mk (x10 : Int) (x9 : Int) (x14 : Int) (x2 : List Int) (j10 : (List Eg) → Option (List Eg)) : Nat → (List Eg) → Int → Option (List Eg)
  | 0,_,_=>none
  | m3 + 1,x15,x16=>if decide (x16 < ((x10.toNat - x9.toNat : Nat) : Int)) then
  Chk (inB x16 (x10.toNat - x9.toNat)) (
  Option.bind (Qf x14 (W (x10 - x9))) (fun r1 =>
  Chk (inB (nth (cut x2 x9 x10) x16) x15.length) (
  Mk x10 x9 x14 x2 j10 m3 (x15.set ((nth (cut x2 x9 x10) x16).toNat) (Eg.mk ((nth x15 (nth (cut x2 x9 x10) x16)).x_) r1)) (W (x16 + 1)))))
  else
  j10 x15
def Kz (x2 : List Int) (p_l : List Dy) (p_t : Mz) (j4 : (List Eg) → Option (List Eg)) : Nat → (List Eg) → Int → Option (List Eg)
  | 0,_,_=>none
  | m1 + 1,x8,x9=>if decide (x9 < (x2.length : Int)) then
  Gq (fun (x10 : Int) (x11 : Int) =>
  Chk (inB 0 p_l.length) (
  Gq (fun (x14 : Int) =>
  Chk (EM x9 x10 x2.length) (
  Gq (fun (x15 : List Eg) =>
  Kz x2 p_l p_t j4 m1 x15 x10) (fun j10 =>
  Mk x10 x9 x14 x2 j10 ((((x10.toNat - x9.toNat : Nat) : Int) - 0).toNat + 2) x8 0))) (fun j9 =>
  if (nth p_l 0).Relay then
  j9 (W (x11 * p_t.Relay))
  else
  j9 x11))) (fun j5 =>
  Nu p_t x2 x8 x9 j5 (((x2.length : Int) - x9).toNat + 2) x9 0)
  else
  j4 x8
def Yh (p_t : Mz) (p_l : List Dy) : Option (List Eg) :=
  Gq (fun (x1 : List (ByteArray × Int)) (x2 : List Int) (x3 : List Eg) =>
  Gq (fun (x8 : List Eg) =>
  some x8) (fun j4 =>
  Kz x2 p_l p_t j4 (((x2.length : Int) - 0).toNat + 2) x3 0)) (fun j1 =>
  Nt p_t j1 p_l 0 ([] : List (ByteArray × Int)) ([] : List Int) ([] : List Eg))
def Om (p_t : Mz) (j1 : (List Eg) → Option (List Eg)) : List (List Dy) → Nat → (List Eg) → Option (List Eg)
  | [],_,x1=>j1 x1
  | y1 :: ys1,i1,x1=>Option.bind (Yh p_t y1) (fun r3 =>
  Chk (decide (x1.length + r3.length < 1073741824)) (
  Om p_t j1 ys1 (i1 + 1) (x1 ++ r3)))
def Sd (p_t : Mz) (p_l : List Dy) : Option (List Eg) :=
  Option.bind (Tk p_l) (fun r1 =>
  Gq (fun (x1 : List Eg) =>
  some x1) (fun j1 =>
  Om p_t j1 r1 0 ([] : List Eg)))
def Nc (j1 : (List Ej) → Option ((List Ej) × Int)) : List Eg → Nat → (List Ej) → Option ((List Ej) × Int)
  | [],_,x1=>j1 x1
  | y1 :: ys1,i1,x1=>Chk (decide (y1.x_.Race.size + Qe.size < 1073741824)) (
  Chk (decide ((y1.x_.Race ++ Qe).size + y1.x_.Who.size < 1073741824)) (
  Chk (Sq x1.length) (
  Nc j1 ys1 (i1 + 1) (x1 ++ [(Ej.mk ((y1.x_.Race ++ Qe) ++ y1.x_.Who) y1.points_)]))))
def Vh (p_t : Mz) (p_l : List Dy) : Option ((List Ej) × Int) :=
  Option.bind (Tc p_t p_l) (fun r1 =>
  if !decide (r1 = 0) then
  some (([] : List Ej),r1)
  else
  Option.bind (Sd p_t p_l) (fun r2 =>
  Gq (fun (x1 : List Ej) =>
  some (x1,0)) (fun j1 =>
  Nc j1 r2 0 ([] : List Ej))))
def Ml (p_r : Em) (r1 : (List Eb) × (List (ByteArray × ByteArray)) × Int) (j1 : (List Dy) → Option ((List Ih) × Int)) : List Eb → Nat → (List Dy) → Option ((List Ih) × Int)
  | [],_,x1=>j1 x1
  | y1 :: ys1,i1,x1=>Chk (Sq x1.length) (
  Ml p_r r1 j1 ys1 (i1 + 1) (x1 ++ [(Dy.mk p_r.Key y1.Who (El r1.2.1 y1.Who An) y1.Rank (decide (1 < p_r.Legs)))]))
def Nj (j2 : (List (ByteArray × Ee)) → Option ((List Ih) × Int)) : List Ej → Nat → (List (ByteArray × Ee)) → Option ((List Ih) × Int)
  | [],_,x2=>j2 x2
  | y2 :: ys2,i2,x2=>Nj j2 ys2 (i2 + 1) (Gw x2 y2.Key y2.Points)
def Mm (p_r : Em) (r1 : (List Eb) × (List (ByteArray × ByteArray)) × Int) (x2 : List (ByteArray × Ee)) (j3 : (List Ih) → Option ((List Ih) × Int)) : List Eb → Nat → (List Ih) → Option ((List Ih) × Int)
  | [],_,x3=>j3 x3
  | y3 :: ys3,i3,x3=>Chk (decide (p_r.Key.size + Qe.size < 1073741824)) (
  Chk (decide ((p_r.Key ++ Qe).size + y3.Who.size < 1073741824)) (
  Gq (fun (x4 : Int) (x5 : Int) =>
  Chk (Sq x3.length) (
  Mm p_r r1 x2 j3 ys3 (i3 + 1) (x3 ++ [(Ih.mk y3.Rank y3.Who (El r1.2.1 y3.Who An) y3.Time y3.Fault (Ee.mk x4 x5))]))) (fun j4 =>
  if !((Pi x2 ((p_r.Key ++ Qe) ++ y3.Who)).isSome) then
  j4 0 1
  else
  j4 ((El x2 ((p_r.Key ++ Qe) ++ y3.Who) (Ee.mk 0 0)).Num) ((El x2 ((p_r.Key ++ Qe) ++ y3.Who) (Ee.mk 0 0)).Den))))
def Pn (p_s_p : Kq) (p_s_deeds : List Dx) (p_r : Em) : Option ((List Ih) × Int) :=
  Option.bind (Wx p_s_p p_s_deeds p_r.Key) (fun r1 =>
  if !decide (r1.2.2 = 0) then
  some (([] : List Ih),r1.2.2)
  else
  Gq (fun (x1 : List Dy) =>
  Option.bind (Ho x1) (fun r2 =>
  Option.bind (Vh p_s_p.Table r2) (fun r3 =>
  if !decide (r3.2 = 0) then
  some (([] : List Ih),r3.2)
  else
  Gq (fun (x2 : List (ByteArray × Ee)) =>
  Gq (fun (x3 : List Ih) =>
  some (x3,0)) (fun j3 =>
  Mm p_r r1 x2 j3 r1.1 0 ([] : List Ih))) (fun j2 =>
  Nj j2 r3.1 0 ([] : List (ByteArray × Ee)))))) (fun j1 =>
  Ml p_r r1 j1 r1.1 0 ([] : List Dy)))
def Wy (p_p : Kq) (p_l : List Dx) (p_race : ByteArray) (p_at : Int) : Option ((List Ih) × Int) :=
  Option.bind (CV p_p p_l p_race p_at) (fun r1 =>
  if !decide (r1.2.2 = 0) then
  some (([] : List Ih),r1.2.2)
  else
  Option.bind (r1.1) (fun r2 =>
  Option.bind (Pn r2.p_ r2.deeds_ r1.2.1) (fun r3 =>
  some (r3.1,r3.2))))
def Kb (j1 : (List Ih) → Option (List Ih)) : List Ih → Nat → (List Ih) → Option (List Ih)
  | [],_,x1=>j1 x1
  | _ :: ys1,i1,x1=>Chk (inB (i1 : Int) x1.length) (
  Kb j1 ys1 (i1 + 1) (x1.set ((i1 : Int).toNat) (Ih.mk 0 An An 0 0 (Ee.mk 0 0))))
def Se (p_l : List Ih) : Option (List Ih) :=
  Gq (fun (x1 : List Ih) =>
  some x1) (fun j1 =>
  Kb j1 p_l 0 p_l)
def Qb (p_s_p : Kq) (p_s_deeds : List Dx) (j1 : Option Int) : List Em → Nat → Option Int
  | [],_=>j1
  | y1 :: ys1,i1=>Option.bind (Xm p_s_p p_s_deeds y1.Key) (fun r1 =>
  if !decide (r1.2 = 0) then
  some r1.2
  else
  Qb p_s_p p_s_deeds j1 ys1 (i1 + 1))
def AK (p_s_p : Kq) (p_s_deeds : List Dx) : Option Int :=
  Gq (some 0) (fun j1 =>
  Qb p_s_p p_s_deeds j1 p_s_p.Races 0)
def CW (p_a : Ee) (p_b : Ee) : Option Ee :=
  Option.bind (Qf (W ((W (p_a.Num * p_b.Den)) + (W (p_b.Num * p_a.Den)))) (W (p_a.Den * p_b.Den))) (fun r1 =>
  some r1)
def Qg (p_a : Ej) (p_b : Ej) : Int :=
  (Hw p_a.Key p_b.Key)
def Fb (p_a : Int) (j2 : (List Ej) → Option (List Ej)) : Nat → (List Ej) → Int → Option (List Ej)
  | 0,_,_=>none
  | m2 + 1,x3,x4=>Gq (fun (x5 : Bool) =>
  if x5 then
  Chk (inB (W (x4 - 1)) x3.length) (
  Chk (inB x4 x3.length) (
  Chk (inB x4 x3.length) (
  Chk (inB (W (x4 - 1)) (x3.set x4.toNat (Ej.mk ((nth x3 (W (x4 - 1))).Key) ((nth x3 (W (x4 - 1))).Points))).length) (
  Fb p_a j2 m2 ((x3.set x4.toNat (Ej.mk ((nth x3 (W (x4 - 1))).Key) ((nth x3 (W (x4 - 1))).Points))).set ((W (x4 - 1)).toNat) (Ej.mk ((nth x3 x4).Key) ((nth x3 x4).Points))) (W (x4 - 1))))))
  else
  j2 x3) (fun j3 =>
  if decide (p_a < x4) then
  Chk (inB x4 x3.length) (
  Chk (inB (W (x4 - 1)) x3.length) (
  j3 (decide ((Qg (Ej.mk ((nth x3 x4).Key) ((nth x3 x4).Points)) (Ej.mk ((nth x3 (W (x4 - 1))).Key) ((nth x3 (W (x4 - 1))).Points))) < 0))))
  else
  j3 false)
def Fx (p_b : Int) (p_a : Int) (j1 : (List Ej) → Option (List Ej)) : Nat → (List Ej) → Int → Option (List Ej)
  | 0,_,_=>none
  | m1 + 1,x1,x2=>if decide (x2 < p_b) then
  Gq (fun (x3 : List Ej) =>
  Fx p_b p_a j1 m1 x3 (W (x2 + 1))) (fun j2 =>
  Fb p_a j2 ((x2 - p_a).toNat + 2) x1 x2)
  else
  j1 x1
def Iq (p_data : List Ej) (p_a : Int) (p_b : Int) : Option (List Ej) :=
  Gq (fun (x1 : List Ej) =>
  some x1) (fun j1 =>
  Fx p_b p_a j1 ((p_b - (W (p_a + 1))).toNat + 2) p_data (W (p_a + 1)))
def He (p_data : List Ej) : Nat → Int → Int → Int → Bool → Option (List Ej)
  | 0,_,_,_,_=>none
  | _ + 1,x1,x2,x3,x4=>if decide ((W (x2 - x1)) ≤ 12) then
  Option.bind (Iq p_data x1 x2) (fun r1 =>
  some r1)
  else
  if decide (x3 = 0) then
  none
  else
  if !x4 then
  none
  else
  none
def Kl (p_data : List Ej) (p_a : Int) (p_b : Int) (p_limit : Int) : Option (List Ej) :=
  He p_data 4611686018427387904 p_a p_b p_limit true
def Jf (p_x : List Ej) : Option (List Ej) :=
  Option.bind (AJ (IntKind.wrap .u64 (p_x.length : Int))) (fun r1 =>
  Option.bind (Kl p_x 0 (p_x.length : Int) r1) (fun r2 =>
  some r2))
def On (j2 : (List (ByteArray × Ee)) → Option ((List Ej) × Int)) : List Dx → Nat → (List (ByteArray × Ee)) → Option ((List Ej) × Int)
  | [],_,x2=>j2 x2
  | y2 :: ys2,i2,x2=>Gq (fun (x3 : List (ByteArray × Ee)) =>
  On j2 ys2 (i2 + 1) x3) (fun j3 =>
  Gq (fun (x4 : List (ByteArray × Ee)) =>
  j3 x4) (fun j4 =>
  if ((!decide (y2.Club = An)) && (!((Pi x2 y2.Club).isSome))) then
  j4 (Gw x2 y2.Club (Ee.mk 0 1))
  else
  j4 x2))
def Nv (j5 : (List (ByteArray × Ee)) → Option ((List Ej) × Int)) : List Ih → Nat → (List (ByteArray × Ee)) → Option ((List Ej) × Int)
  | [],_,x5=>j5 x5
  | y3 :: ys3,i3,x5=>Gq (fun (x6 : List (ByteArray × Ee)) =>
  Nv j5 ys3 (i3 + 1) x6) (fun j6 =>
  Gq (fun (x7 : List (ByteArray × Ee)) =>
  j6 x7) (fun j7 =>
  if !decide (y3.Club = An) then
  Option.bind (CW (El x5 y3.Club (Ee.mk 0 0)) y3.Points) (fun r4 =>
  j7 (Gw x5 y3.Club r4))
  else
  j7 x5))
def Nd (p_s_p : Kq) (p_s_deeds : List Dx) (j1 : (List (ByteArray × Ee)) → Option ((List Ej) × Int)) : List Em → Nat → (List (ByteArray × Ee)) → Option ((List Ej) × Int)
  | [],_,x1=>j1 x1
  | y1 :: ys1,i1,x1=>Option.bind (Qx p_s_p p_s_deeds y1.Key) (fun r2 =>
  Gq (fun (x2 : List (ByteArray × Ee)) =>
  Option.bind (Pn p_s_p p_s_deeds y1) (fun r3 =>
  if !decide (r3.2 = 0) then
  some (([] : List Ej),r3.2)
  else
  Gq (fun (x5 : List (ByteArray × Ee)) =>
  Nd p_s_p p_s_deeds j1 ys1 (i1 + 1) x5) (fun j5 =>
  Nv j5 r3.1 0 x2))) (fun j2 =>
  On j2 r2 0 x1))
def Nw (j8 : (List Ej) → Option ((List Ej) × Int)) : List (ByteArray × Ee) → (List Ej) → Option ((List Ej) × Int)
  | [],x8=>j8 x8
  | y4 :: ys4,x8=>Option.bind (α:=(List Ej)) (
  Chk (Sq x8.length) (
  some (x8 ++ [(Ej.mk y4.1 y4.2)]))) (fun s=>Nw j8 ys4 s)
def Uy (p_s_p : Kq) (p_s_deeds : List Dx) : Option ((List Ej) × Int) :=
  Option.bind (AK p_s_p p_s_deeds) (fun r1 =>
  if !decide (r1 = 0) then
  some (([] : List Ej),r1)
  else
  Gq (fun (x1 : List (ByteArray × Ee)) =>
  Gq (fun (x8 : List Ej) =>
  Option.bind (Jf x8) (fun r5 =>
  some (r5,0))) (fun j8 =>
  RD x1 (fun p=>Nw j8 p ([] : List Ej)))) (fun j1 =>
  Nd p_s_p p_s_deeds j1 p_s_p.Races 0 ([] : List (ByteArray × Ee))))
def Zg (p_p : Kq) (p_l : List Dx) (p_at : Int) : Option ((List Ej) × Int) :=
  Option.bind (Zb p_p p_l ([p_at] : List Int)) (fun r1 =>
  if !decide (r1.2 = 0) then
  some (([] : List Ej),r1.2)
  else
  Option.bind (r1.1) (fun r2 =>
  Option.bind (Uy r2.p_ r2.deeds_) (fun r3 =>
  some (r3.1,r3.2))))
def Jn (j1 : (List Ej) → Option (List Ej)) : List Ej → Nat → (List Ej) → Option (List Ej)
  | [],_,x1=>j1 x1
  | _ :: ys1,i1,x1=>Chk (inB (i1 : Int) x1.length) (
  Jn j1 ys1 (i1 + 1) (x1.set ((i1 : Int).toNat) (Ej.mk An (Ee.mk 0 0))))
def Rs (p_l : List Ej) : Option (List Ej) :=
  Gq (fun (x1 : List Ej) =>
  some x1) (fun j1 =>
  Jn j1 p_l 0 p_l)
def Lt (p_s2 : List Em) (j1 : Option Bool) : List Em → Nat → Option Bool
  | [],_=>j1
  | y1 :: ys1,i1=>Chk (inB (i1 : Int) p_s2.length) (
  if !decide (y1 = (nth p_s2 (i1 : Int))) then
  some false
  else
  Lt p_s2 j1 ys1 (i1 + 1))
def Sf (p_s1 : List Em) (p_s2 : List Em) : Option Bool :=
  if !decide ((p_s1.length : Int) = (p_s2.length : Int)) then
  some false
  else
  Gq (some true) (fun j1 =>
  Lt p_s2 j1 p_s1 0)
def Me (p_s2 : List Int) (j1 : Option Bool) : List Int → Nat → Option Bool
  | [],_=>j1
  | y1 :: ys1,i1=>Chk (inB (i1 : Int) p_s2.length) (
  if !decide (y1 = (nth p_s2 (i1 : Int))) then
  some false
  else
  Me p_s2 j1 ys1 (i1 + 1))
def Td (p_s1 : List Int) (p_s2 : List Int) : Option Bool :=
  if !decide ((p_s1.length : Int) = (p_s2.length : Int)) then
  some false
  else
  Gq (some true) (fun j1 =>
  Me p_s2 j1 p_s1 0)
def Lu (p_s2 : List Dx) (j1 : Option Bool) : List Dx → Nat → Option Bool
  | [],_=>j1
  | y1 :: ys1,i1=>Chk (inB (i1 : Int) p_s2.length) (
  if !decide (y1 = (nth p_s2 (i1 : Int))) then
  some false
  else
  Lu p_s2 j1 ys1 (i1 + 1))
def Sg (p_s1 : List Dx) (p_s2 : List Dx) : Option Bool :=
  if !decide ((p_s1.length : Int) = (p_s2.length : Int)) then
  some false
  else
  Gq (some true) (fun j1 =>
  Lu p_s2 j1 p_s1 0)
def Yw (p_year : Int) : Bool :=
  ((decide ((Int.tmod p_year 4) = 0)) && ((!decide ((Int.tmod p_year 100) = 0)) || (decide ((Int.tmod p_year 400) = 0))))
def Ou (p_year : Int) (p_month : Int) : Int :=
  if decide (p_month = 2) then
  if (Yw p_year) then
  29
  else
  28
  else
  Gq (fun (x1 : Bool) =>
  if x1 then
  30
  else
  31) (fun j1 =>
  if decide (p_month = 4) then
  j1 (decide (p_month = 4))
  else
  Gq (fun (x2 : Bool) =>
  j1 x2) (fun j2 =>
  if decide (p_month = 6) then
  j2 (decide (p_month = 6))
  else
  Gq (fun (x3 : Bool) =>
  j2 x3) (fun j3 =>
  if decide (p_month = 9) then
  j3 (decide (p_month = 9))
  else
  j3 (decide (p_month = 11)))))
def Re (p_year : Int) : Int :=
  if (Yw p_year) then
  366
  else
  365
def AC (p_n : Int) : Bool :=
  (Ed p_n (-40000) 4000)
def Pe (p_d : Nq) (j2 : Int → Option (Int × Int)) : Nat → Int → Int → Option (Int × Int)
  | 0,_,_=>none
  | m1 + 1,x2,x3=>if decide (x3 < p_d.Month) then
  Pe p_d j2 m1 (W (x2 + (Ou p_d.Year x3))) (W (x3 + 1))
  else
  j2 x2
def Pf (p_d : Nq) (j3 : Int → Option (Int × Int)) : Nat → Int → Int → Option (Int × Int)
  | 0,_,_=>none
  | m2 + 1,x4,x5=>if decide (x5 < p_d.Year) then
  Pf p_d j3 m2 (W (x4 + (Re x5))) (W (x5 + 1))
  else
  j3 x4
def Pg (j4 : Int → Option (Int × Int)) : Nat → Int → Int → Option (Int × Int)
  | 0,_,_=>none
  | m3 + 1,x6,x7=>if decide (x7 < 2024) then
  Pg j4 m3 (W (x6 - (Re x7))) (W (x7 + 1))
  else
  j4 x6
def AD (p_d : Nq) : Option (Int × Int) :=
  Gq (fun (x1 : Bool) =>
  if x1 then
  some (0,1)
  else
  Gq (fun (x2 : Int) =>
  Gq (fun (x4 : Int) =>
  Gq (fun (x6 : Int) =>
  if !(AC x6) then
  some (0,1)
  else
  some (x6,0)) (fun j4 =>
  Pg j4 ((2024 - p_d.Year).toNat + 2) x4 p_d.Year)) (fun j3 =>
  Pf p_d j3 ((p_d.Year - 2024).toNat + 2) x2 2024)) (fun j2 =>
  Pe p_d j2 ((p_d.Month - 1).toNat + 2) (W (p_d.Day - 1)) 1)) (fun j1 =>
  if !(Ed p_d.Year 1900 2100) then
  if true then
  j1 true
  else
  j1 (!(Ed p_d.Day 1 (Ou p_d.Year p_d.Month)))
  else
  if !(Ed p_d.Month 1 12) then
  j1 true
  else
  j1 (!(Ed p_d.Day 1 (Ou p_d.Year p_d.Month))))
def Mc (j1 : (List (ByteArray × Bool)) → Option Int) : List Ov → Nat → (List (ByteArray × Bool)) → Option Int
  | [],_,x1=>j1 x1
  | y1 :: ys1,i1,x1=>Option.bind (Gy y1.Key) (fun r1 =>
  if !r1 then
  some 5
  else
  if El x1 y1.Key false then
  some 6
  else
  if ((((!(Ed y1.Heats 1 60)) || (!(Ed y1.Long 1 3600000))) || (!(Ed y1.Gap 0 3600000))) || (!(Ed y1.Break 0 3600000))) then
  some 1
  else
  Mc j1 ys1 (i1 + 1) (Gw x1 y1.Key true))
def Wi (p_l : List Ov) : Option Int :=
  if decide (100 < (p_l.length : Int)) then
  some 2
  else
  Gq (fun (x1 : List (ByteArray × Bool)) =>
  some 0) (fun j1 =>
  Mc j1 p_l 0 ([] : List (ByteArray × Bool)))
def Ms (y1 : Ov) (j2 : (List Lq) → Int → Option (List Lq)) : Nat → (List Lq) → Int → Int → Option (List Lq)
  | 0,_,_,_=>none
  | m1 + 1,x3,x4,x5=>if decide (x5 ≤ y1.Heats) then
  Gq (fun (x6 : List Lq) (x7 : Int) =>
  Ms y1 j2 m1 x6 x7 (W (x5 + 1))) (fun j3 =>
  Chk (Sq x3.length) (
  Gq (fun (x8 : Int) =>
  j3 (x3 ++ [(Lq.mk y1.Key x5 (Ve.mk x4 (W (x4 + y1.Long))))]) x8) (fun j4 =>
  if decide (x5 < y1.Heats) then
  j4 (W ((W (x4 + y1.Long)) + y1.Gap))
  else
  j4 (W (x4 + y1.Long)))))
  else
  j2 x3 x4
def Mt (j1 : (List Lq) → Option (List Lq)) : List Ov → Nat → (List Lq) → Int → Option (List Lq)
  | [],_,x1,_=>j1 x1
  | y1 :: ys1,i1,x1,x2=>Gq (fun (x3 : List Lq) (x4 : Int) =>
  Mt j1 ys1 (i1 + 1) x3 (W (x4 + y1.Break))) (fun j2 =>
  Ms y1 j2 ((y1.Heats - 1).toNat + 2) x1 x2 1)
def Wz (p_l : List Ov) (p_from : Int) : Option (List Lq) :=
  Gq (fun (x1 : List Lq) =>
  some x1) (fun j1 =>
  Mt j1 p_l 0 ([] : List Lq) p_from)
def Zw (p_l : List Lq) (p_from : Int) : Option Int :=
  if decide ((p_l.length : Int) = 0) then
  some p_from
  else
  Chk (inB (W ((p_l.length : Int) - 1)) p_l.length) (
  some (((nth p_l (W ((p_l.length : Int) - 1))).Time).To))
def AE (p_l : List Ov) (p_from : Int) : Option ((List Lq) × Int) :=
  if !(Iz p_from) then
  some (([] : List Lq),1)
  else
  Option.bind (Wz p_l p_from) (fun r1 =>
  Option.bind (Zw r1 p_from) (fun r2 =>
  if decide (345686400000 < r2) then
  some (([] : List Lq),1)
  else
  some (r1,0)))
def Xa (p_l : List Ov) (p_from : Int) : Option ((List Lq) × Int) :=
  Option.bind (Wi p_l) (fun r1 =>
  if !decide (r1 = 0) then
  some (([] : List Lq),r1)
  else
  Option.bind (AE p_l p_from) (fun r2 =>
  some (r2.1,r2.2)))
def BM (p_l : List Ov) (p_from : Int) : Option (Int × Int) :=
  Option.bind (Xa p_l p_from) (fun r1 =>
  if !decide (r1.2 = 0) then
  some (0,r1.2)
  else
  Option.bind (Zw r1.1 p_from) (fun r2 =>
  some (r2,0)))
def Sm (p_n : Int) : Bool :=
  (Ed p_n 1 360000)
def Nk (p_l : List Sp) (j1 : Option Int) : List Sp → Nat → Option Int
  | [],_=>j1
  | y1 :: ys1,i1=>Option.bind (Gy y1.Race) (fun r1 =>
  if !r1 then
  some 5
  else
  Gq (fun (c1 : Bool) =>
  if c1 then
  some 7
  else
  if !(Sm y1.Time) then
  some 1
  else
  Nk p_l j1 ys1 (i1 + 1)) (fun j2 =>
  if (decide (0 < (i1 : Int))) then Chk (inB (W ((i1 : Int) - 1)) p_l.length) (
  j2 ((decide (0 < (i1 : Int))) && (FZ y1.Race ((nth p_l (W ((i1 : Int) - 1))).Race) || decide (y1.Race = ((nth p_l (W ((i1 : Int) - 1))).Race))))) else j2 ((decide (0 < (i1 : Int))) && true)))
def Xo (p_l : List Sp) : Option Int :=
  if decide (500 < (p_l.length : Int)) then
  some 2
  else
  Gq (some 0) (fun j1 =>
  Nk p_l j1 p_l 0)
def Ph (p_race : ByteArray) (j1 : Int) : List Sp → Nat → Int
  | [],_=>j1
  | y1 :: ys1,i1=>if decide (y1.Race = p_race) then
  y1.Time
  else
  Ph p_race j1 ys1 (i1 + 1)
def Ug (p_l : List Sp) (p_race : ByteArray) : Int :=
  Gq (0) (fun j1 =>
  Ph p_race j1 p_l 0)
def Tm (p_x : Int) (p_y : Int) : (Int × Int) :=
  (IntKind.wrap .u64 ((IntKind.wrap .u64 ((IntKind.wrap .u64 ((Hf .u64 p_x 32) * (Hf .u64 p_y 32))) + (Hf .u64 (IntKind.wrap .u64 ((IntKind.wrap .u64 ((Hf .u64 p_x 32) * (Ow .u64 p_y 4294967295))) + (Hf .u64 (IntKind.wrap .u64 ((Ow .u64 p_x 4294967295) * (Ow .u64 p_y 4294967295))) 32))) 32))) + (Hf .u64 (IntKind.wrap .u64 ((Ow .u64 (IntKind.wrap .u64 ((IntKind.wrap .u64 ((Hf .u64 p_x 32) * (Ow .u64 p_y 4294967295))) + (Hf .u64 (IntKind.wrap .u64 ((Ow .u64 p_x 4294967295) * (Ow .u64 p_y 4294967295))) 32))) 4294967295) + (IntKind.wrap .u64 ((Ow .u64 p_x 4294967295) * (Hf .u64 p_y 32))))) 32)),IntKind.wrap .u64 (p_x * p_y))
def Vp (p_x : Int) : Option Int :=
  Option.bind (BK p_x) (fun r1 =>
  some (W (64 - r1)))
def Qy (p_lo : Int) (r1 : Int) (p_y : Int) (j1 : Int → Option (Int × Int)) : Nat → Int → Int → Option (Int × Int)
  | 0,_,_=>none
  | m1 + 1,x1,x2=>if ((decide (4294967296 ≤ x1)) || (decide ((IntKind.wrap .u64 ((IntKind.wrap .u64 (4294967296 * x2)) + (Hf .u64 (Gh .u64 p_lo (IntKind.wrap .u64 r1)) 32))) < (IntKind.wrap .u64 (x1 * (Ow .u64 (Gh .u64 p_y (IntKind.wrap .u64 r1)) 4294967295)))))) then
  if decide (4294967296 ≤ (IntKind.wrap .u64 (x2 + (Hf .u64 (Gh .u64 p_y (IntKind.wrap .u64 r1)) 32)))) then
  j1 (IntKind.wrap .u64 (x1 - 1))
  else
  Qy p_lo r1 p_y j1 m1 (IntKind.wrap .u64 (x1 - 1)) (IntKind.wrap .u64 (x2 + (Hf .u64 (Gh .u64 p_y (IntKind.wrap .u64 r1)) 32)))
  else
  j1 x1
def Qz (p_lo : Int) (r1 : Int) (p_y : Int) (j2 : Int → Option (Int × Int)) : Nat → Int → Int → Option (Int × Int)
  | 0,_,_=>none
  | m2 + 1,x3,x4=>if ((decide (4294967296 ≤ x4)) || (decide ((IntKind.wrap .u64 ((IntKind.wrap .u64 (4294967296 * x3)) + (Ow .u64 (Gh .u64 p_lo (IntKind.wrap .u64 r1)) 4294967295))) < (IntKind.wrap .u64 (x4 * (Ow .u64 (Gh .u64 p_y (IntKind.wrap .u64 r1)) 4294967295)))))) then
  if decide (4294967296 ≤ (IntKind.wrap .u64 (x3 + (Hf .u64 (Gh .u64 p_y (IntKind.wrap .u64 r1)) 32)))) then
  j2 (IntKind.wrap .u64 (x4 - 1))
  else
  Qz p_lo r1 p_y j2 m2 (IntKind.wrap .u64 (x3 + (Hf .u64 (Gh .u64 p_y (IntKind.wrap .u64 r1)) 32))) (IntKind.wrap .u64 (x4 - 1))
  else
  j2 x4
def FJ (p_hi : Int) (p_lo : Int) (p_y : Int) : Option (Int × Int) :=
  if decide (p_y = 0) then
  none
  else
  if decide (p_y ≤ p_hi) then
  none
  else
  if decide (p_hi = 0) then
  Chk (!decide (p_y = 0)) (
  Chk (!decide (p_y = 0)) (
  some (IntKind.wrap .u64 (Int.tdiv p_lo p_y),Int.tmod p_lo p_y)))
  else
  Option.bind (Vp p_y) (fun r1 =>
  Chk (decide (0 ≤ (IntKind.wrap .u64 r1))) (
  Chk (decide (0 ≤ (IntKind.wrap .u64 r1))) (
  Chk (decide (0 ≤ (IntKind.wrap .u64 (64 - (IntKind.wrap .u64 r1))))) (
  Chk (decide (0 ≤ (IntKind.wrap .u64 r1))) (
  Chk (!decide ((Hf .u64 (Gh .u64 p_y (IntKind.wrap .u64 r1)) 32) = 0)) (
  Gq (fun (x1 : Int) =>
  Chk (!decide ((Hf .u64 (Gh .u64 p_y (IntKind.wrap .u64 r1)) 32) = 0)) (
  Gq (fun (x4 : Int) =>
  Chk (decide (0 ≤ (IntKind.wrap .u64 r1))) (
  some (IntKind.wrap .u64 ((IntKind.wrap .u64 (x1 * 4294967296)) + x4),Hf .u64 (IntKind.wrap .u64 ((IntKind.wrap .u64 ((IntKind.wrap .u64 ((IntKind.wrap .u64 ((IntKind.wrap .u64 ((IntKind.wrap .u64 ((Ts .u64 (Gh .u64 p_hi (IntKind.wrap .u64 r1)) (Hf .u64 p_lo (IntKind.wrap .u64 (64 - (IntKind.wrap .u64 r1))))) * 4294967296)) + (Hf .u64 (Gh .u64 p_lo (IntKind.wrap .u64 r1)) 32))) - (IntKind.wrap .u64 (x1 * (Gh .u64 p_y (IntKind.wrap .u64 r1)))))) * 4294967296)) + (Ow .u64 (Gh .u64 p_lo (IntKind.wrap .u64 r1)) 4294967295))) - (IntKind.wrap .u64 (x4 * (Gh .u64 p_y (IntKind.wrap .u64 r1)))))) (IntKind.wrap .u64 r1)))) (fun j2 =>
  Qz p_lo r1 p_y j2 (((IntKind.wrap .u64 (Int.tdiv (IntKind.wrap .u64 ((IntKind.wrap .u64 ((IntKind.wrap .u64 ((Ts .u64 (Gh .u64 p_hi (IntKind.wrap .u64 r1)) (Hf .u64 p_lo (IntKind.wrap .u64 (64 - (IntKind.wrap .u64 r1))))) * 4294967296)) + (Hf .u64 (Gh .u64 p_lo (IntKind.wrap .u64 r1)) 32))) - (IntKind.wrap .u64 (x1 * (Gh .u64 p_y (IntKind.wrap .u64 r1)))))) (Hf .u64 (Gh .u64 p_y (IntKind.wrap .u64 r1)) 32))) - 4294967296).toNat + 2) (IntKind.wrap .u64 ((IntKind.wrap .u64 ((IntKind.wrap .u64 ((IntKind.wrap .u64 ((Ts .u64 (Gh .u64 p_hi (IntKind.wrap .u64 r1)) (Hf .u64 p_lo (IntKind.wrap .u64 (64 - (IntKind.wrap .u64 r1))))) * 4294967296)) + (Hf .u64 (Gh .u64 p_lo (IntKind.wrap .u64 r1)) 32))) - (IntKind.wrap .u64 (x1 * (Gh .u64 p_y (IntKind.wrap .u64 r1)))))) - (IntKind.wrap .u64 ((IntKind.wrap .u64 (Int.tdiv (IntKind.wrap .u64 ((IntKind.wrap .u64 ((IntKind.wrap .u64 ((Ts .u64 (Gh .u64 p_hi (IntKind.wrap .u64 r1)) (Hf .u64 p_lo (IntKind.wrap .u64 (64 - (IntKind.wrap .u64 r1))))) * 4294967296)) + (Hf .u64 (Gh .u64 p_lo (IntKind.wrap .u64 r1)) 32))) - (IntKind.wrap .u64 (x1 * (Gh .u64 p_y (IntKind.wrap .u64 r1)))))) (Hf .u64 (Gh .u64 p_y (IntKind.wrap .u64 r1)) 32))) * (Hf .u64 (Gh .u64 p_y (IntKind.wrap .u64 r1)) 32))))) (IntKind.wrap .u64 (Int.tdiv (IntKind.wrap .u64 ((IntKind.wrap .u64 ((IntKind.wrap .u64 ((Ts .u64 (Gh .u64 p_hi (IntKind.wrap .u64 r1)) (Hf .u64 p_lo (IntKind.wrap .u64 (64 - (IntKind.wrap .u64 r1))))) * 4294967296)) + (Hf .u64 (Gh .u64 p_lo (IntKind.wrap .u64 r1)) 32))) - (IntKind.wrap .u64 (x1 * (Gh .u64 p_y (IntKind.wrap .u64 r1)))))) (Hf .u64 (Gh .u64 p_y (IntKind.wrap .u64 r1)) 32)))))) (fun j1 =>
  Qy p_lo r1 p_y j1 (((IntKind.wrap .u64 (Int.tdiv (Ts .u64 (Gh .u64 p_hi (IntKind.wrap .u64 r1)) (Hf .u64 p_lo (IntKind.wrap .u64 (64 - (IntKind.wrap .u64 r1))))) (Hf .u64 (Gh .u64 p_y (IntKind.wrap .u64 r1)) 32))) - 4294967296).toNat + 2) (IntKind.wrap .u64 (Int.tdiv (Ts .u64 (Gh .u64 p_hi (IntKind.wrap .u64 r1)) (Hf .u64 p_lo (IntKind.wrap .u64 (64 - (IntKind.wrap .u64 r1))))) (Hf .u64 (Gh .u64 p_y (IntKind.wrap .u64 r1)) 32))) (IntKind.wrap .u64 ((Ts .u64 (Gh .u64 p_hi (IntKind.wrap .u64 r1)) (Hf .u64 p_lo (IntKind.wrap .u64 (64 - (IntKind.wrap .u64 r1))))) - (IntKind.wrap .u64 ((IntKind.wrap .u64 (Int.tdiv (Ts .u64 (Gh .u64 p_hi (IntKind.wrap .u64 r1)) (Hf .u64 p_lo (IntKind.wrap .u64 (64 - (IntKind.wrap .u64 r1))))) (Hf .u64 (Gh .u64 p_y (IntKind.wrap .u64 r1)) 32))) * (Hf .u64 (Gh .u64 p_y (IntKind.wrap .u64 r1)) 32))))))))))))
def AF (p_base : Int) (p_time : Int) : Option Int :=
  if decide ((IntKind.wrap .u64 ((IntKind.wrap .u64 ((IntKind.wrap .u64 p_time) * (IntKind.wrap .u64 p_time))) * (IntKind.wrap .u64 p_time))) ≤ ((Tm (IntKind.wrap .u64 ((IntKind.wrap .u64 ((IntKind.wrap .u64 p_base) * (IntKind.wrap .u64 p_base))) * (IntKind.wrap .u64 p_base))) 1000).1)) then
  some 1000000000
  else
  Option.bind (FJ ((Tm (IntKind.wrap .u64 ((IntKind.wrap .u64 ((IntKind.wrap .u64 p_base) * (IntKind.wrap .u64 p_base))) * (IntKind.wrap .u64 p_base))) 1000).1) ((Tm (IntKind.wrap .u64 ((IntKind.wrap .u64 ((IntKind.wrap .u64 p_base) * (IntKind.wrap .u64 p_base))) * (IntKind.wrap .u64 p_base))) 1000).2) (IntKind.wrap .u64 ((IntKind.wrap .u64 ((IntKind.wrap .u64 p_time) * (IntKind.wrap .u64 p_time))) * (IntKind.wrap .u64 p_time)))) (fun r1 =>
  some (W (imin r1.1 1000000000)))
def AG (p_l : List Sp) (p_race : ByteArray) (p_time : Int) : Option (Int × Int) :=
  Option.bind (Xo p_l) (fun r1 =>
  if !decide (r1 = 0) then
  some (0,r1)
  else
  if decide ((Ug p_l p_race) = 0) then
  some (0,8)
  else
  if !(Sm p_time) then
  some (0,1)
  else
  Option.bind (AF (Ug p_l p_race) p_time) (fun r2 =>
  some (r2,0)))
def Mu (y1 : Vw) (j4 : Option Int) : List ByteArray → Nat → Option Int
  | [],_=>j4
  | y2 :: ys2,i2=>Option.bind (Gy y2) (fun r5 =>
  if !r5 then
  some 5
  else
  Gq (fun (c3 : Bool) =>
  if c3 then
  some 7
  else
  Mu y1 j4 ys2 (i2 + 1)) (fun j5 =>
  if (decide (0 < (i2 : Int))) then Chk (inB (W ((i2 : Int) - 1)) y1.Clubs.length) (
  j5 ((decide (0 < (i2 : Int))) && (FZ y2 (nth y1.Clubs (W ((i2 : Int) - 1))) || decide (y2 = (nth y1.Clubs (W ((i2 : Int) - 1))))))) else j5 ((decide (0 < (i2 : Int))) && true)))
def Mv (p_l : List Vw) (j1 : Option Int) : List Vw → Nat → Option Int
  | [],_=>j1
  | y1 :: ys1,i1=>Option.bind (Gy y1.Key) (fun r2 =>
  Gq (fun (c1 : Bool) =>
  if c1 then
  some 5
  else
  Gq (fun (c2 : Bool) =>
  if c2 then
  some 7
  else
  if decide (100 < (y1.Clubs.length : Int)) then
  some 2
  else
  Gq (if (((decide (y1.Young < 0)) || (decide (y1.Old < y1.Young))) || (decide (150 < y1.Old))) then
  some 1
  else
  Mv p_l j1 ys1 (i1 + 1)) (fun j4 =>
  Mu y1 j4 y1.Clubs 0)) (fun j3 =>
  if (decide (0 < (i1 : Int))) then Chk (inB (W ((i1 : Int) - 1)) p_l.length) (
  j3 ((decide (0 < (i1 : Int))) && (FZ y1.Key ((nth p_l (W ((i1 : Int) - 1))).Key) || decide (y1.Key = ((nth p_l (W ((i1 : Int) - 1))).Key))))) else j3 ((decide (0 < (i1 : Int))) && true))) (fun j2 =>
  if (!r2) then j2 ((!r2) || true) else Option.bind (Gy y1.Race) (fun r3 =>
  j2 ((!r2) || (!r3)))))
def Xb (p_l : List Vw) : Option Int :=
  if decide (50 < (p_l.length : Int)) then
  some 2
  else
  Gq (some 0) (fun j1 =>
  Mv p_l j1 p_l 0)
def Xp (p_x : Li) : Option Int :=
  Gq (some 0) (fun j1 =>
  if !(Iz p_x.At) then
  some 1
  else
  if !(Ed p_x.Kind 1 3) then
  some 4
  else
  Option.bind (Gy p_x.Id) (fun r1 =>
  if !r1 then
  some 5
  else
  Gq (j1) (fun j2 =>
  if !decide (p_x.Kind = 1) then
  if !decide (p_x = (Li.mk p_x.At p_x.Kind p_x.Id An An An 0 0)) then
  some 3
  else
  j2
  else
  Option.bind (Gy p_x.Who) (fun r2 =>
  Gq (fun (c1 : Bool) =>
  Gq (fun (c2 : Bool) =>
  if c2 then
  some 5
  else
  if ((!(Ed p_x.Age 0 150)) || (!(Sm p_x.Time))) then
  some 1
  else
  j2) (fun j4 =>
  if c1 then j4 (c1 || true) else Gq (fun (c3 : Bool) =>
  j4 (c1 || c3)) (fun j5 =>
  if (!decide (p_x.Club = An)) then Option.bind (Gy p_x.Club) (fun r4 =>
  j5 ((!decide (p_x.Club = An)) && (!r4))) else j5 ((!decide (p_x.Club = An)) && true)))) (fun j3 =>
  if (!r2) then j3 ((!r2) || true) else Option.bind (Gy p_x.Race) (fun r3 =>
  j3 ((!r2) || (!r3))))))))
def Xq (p_s : Li) : Option Int :=
  Option.bind (Xp p_s) (fun r1 =>
  if !decide (r1 = 0) then
  some r1
  else
  if !decide (p_s.Kind = 1) then
  some 4
  else
  some 0)
def Lv (p_v : ByteArray) (j1 : Int) : List ByteArray → Nat → Int
  | [],_=>j1
  | y1 :: ys1,i1=>if decide (p_v = y1) then
  (i1 : Int)
  else
  Lv p_v j1 ys1 (i1 + 1)
def Vr (p_s : List ByteArray) (p_v : ByteArray) : Int :=
  Gq ((-1)) (fun j1 =>
  Lv p_v j1 p_s 0)
def Km (p_s : List ByteArray) (p_v : ByteArray) : Bool :=
  decide (0 ≤ (Vr p_s p_v))
def BN (p_k : Vw) (p_s : Li) : Bool :=
  (((decide (p_s.Race = p_k.Race)) && ((decide ((p_k.Clubs.length : Int) = 0)) || (Km p_k.Clubs p_s.Club))) && (Ed p_s.Age p_k.Young p_k.Old))
def Rb (p_s : Li) (j1 : (List ByteArray) → Option ((List ByteArray) × Int)) : List Vw → Nat → (List ByteArray) → Option ((List ByteArray) × Int)
  | [],_,x1=>j1 x1
  | y1 :: ys1,i1,x1=>Gq (fun (x2 : List ByteArray) =>
  Rb p_s j1 ys1 (i1 + 1) x2) (fun j2 =>
  Gq (fun (x3 : List ByteArray) =>
  j2 x3) (fun j3 =>
  if (BN y1 p_s) then
  Chk (Sq x1.length) (
  j3 (x1 ++ [y1.Key]))
  else
  j3 x1))
def FK (p_l : List Vw) (p_s : Li) : Option ((List ByteArray) × Int) :=
  Option.bind (Xb p_l) (fun r1 =>
  if !decide (r1 = 0) then
  some (([] : List ByteArray),r1)
  else
  Option.bind (Xq p_s) (fun r2 =>
  if !decide (r2 = 0) then
  some (([] : List ByteArray),r2)
  else
  Gq (fun (x1 : List ByteArray) =>
  some (x1,0)) (fun j1 =>
  Rb p_s j1 p_l 0 ([] : List ByteArray))))
def Oj (j1 : Int) : List Int → Nat → Int
  | [],_=>j1
  | y1 :: ys1,i1=>if !decide (y1 = 0) then
  y1
  else
  Oj j1 ys1 (i1 + 1)
def Nx (p_l : List Int) : Int :=
  Gq (0) (fun j1 =>
  Oj j1 p_l 0)
def We : Option Bool :=
  Option.bind (AD (Nq.mk 2024 3 1)) (fun r1 =>
  Option.bind (BM [(Ov.mk k_a 2 10 5 0)] 0) (fun r2 =>
  Option.bind (AG [(Sp.mk k_r 3000)] k_r 6000) (fun r3 =>
  Option.bind (FK ([(Vw.mk k_k k_r ([] : List ByteArray) 0 9)] : List Vw) (Li.mk 0 1 k_i k_a An k_r 0 5)) (fun r4 =>
  some (((((decide ((Nx [r1.2,r2.2,r3.2,r4.2]) = 0)) && (decide (r1.1 = 60))) && (decide (r2.1 = 25))) && (decide (r3.1 = 125))) && (decide ((r4.1.length : Int) = 1)))))))
def Jo (r1 : Kq × Int) (r2 : (List Dx) × Int) (j1 : Option Bool) : List Em → Nat → Option Bool
  | [],_=>j1
  | y1 :: ys1,i1=>Option.bind (Wy r1.1 r2.1 y1.Key 60) (fun r7 =>
  Option.bind (Se r7.1) (fun r8 =>
  Jo r1 r2 j1 ys1 (i1 + 1)))
def Sw (p_l : List Int) : Option Bool :=
  Option.bind (Rd p_l 0) (fun r1 =>
  Option.bind (Ql p_l r1.2 12) (fun r2 =>
  Option.bind (Rd p_l 0) (fun r3 =>
  Option.bind (Ql p_l r3.2 12) (fun r4 =>
  Option.bind (Zf r2.1 ([] : List Dx)) (fun r5 =>
  Option.bind (Sc r5.1) (fun r6 =>
  Gq (Option.bind (Zg r1.1 r2.1 60) (fun r9 =>
  Option.bind (Rs r9.1) (fun r10 =>
  Option.bind (Sf r1.1.Races r3.1.Races) (fun r11 =>
  Gq (fun (c1 : Bool) =>
  Gq (fun (c2 : Bool) =>
  Gq (fun (c3 : Bool) =>
  some c3) (fun j4 =>
  if c2 then Option.bind (We) (fun r14 =>
  j4 (c2 && r14)) else j4 (c2 && true))) (fun j3 =>
  if c1 then Option.bind (Sg r2.1 r4.1) (fun r13 =>
  j3 (c1 && r13)) else j3 (c1 && true))) (fun j2 =>
  if r11 then Option.bind (Td r1.1.Table.Points r3.1.Table.Points) (fun r12 =>
  j2 (r11 && r12)) else j2 (r11 && true)))))) (fun j1 =>
  Jo r1 r2 j1 r1.1.Races 0)))))))
theorem twin_eqs : True:=by
  have h:=@Lh.eq_def; clear h; have h:=@Lh.eq_1; clear h; have h:=@Lh.eq_2; clear h
  have h:=@Kn.eq_def; clear h; have h:=@Kn.eq_1; clear h; have h:=@Kn.eq_2; clear h
  have h:=@Jl.eq_def; clear h; have h:=@Jl.eq_1; clear h; have h:=@Jl.eq_2; clear h
  have h:=@Ew.eq_def; clear h; have h:=@Ew.eq_1; clear h; have h:=@Ew.eq_2; clear h
  have h:=@Fo.eq_def; clear h; have h:=@Fo.eq_1; clear h; have h:=@Fo.eq_2; clear h
  have h:=@Gi.eq_def; clear h; have h:=@Gi.eq_1; clear h; have h:=@Gi.eq_2; clear h
  have h:=@Hj.eq_def; clear h; have h:=@Hj.eq_1; clear h; have h:=@Hj.eq_2; clear h
  have h:=@Gj.eq_def; clear h; have h:=@Gj.eq_1; clear h; have h:=@Gj.eq_2; clear h
  have h:=@Ny.eq_def; clear h; have h:=@Ny.eq_1; clear h; have h:=@Ny.eq_2; clear h
  have h:=@Mh.eq_def; clear h; have h:=@Mh.eq_1; clear h; have h:=@Mh.eq_2; clear h
  have h:=@Fl.eq_def; clear h; have h:=@Fl.eq_1; clear h; have h:=@Fl.eq_2; clear h
  have h:=@Ip.eq_def; clear h; have h:=@Ip.eq_1; clear h; have h:=@Ip.eq_2; clear h
  have h:=@Jc.eq_def; clear h; have h:=@Jc.eq_1; clear h; have h:=@Jc.eq_2; clear h
  have h:=@Ko.eq_def; clear h; have h:=@Ko.eq_1; clear h; have h:=@Ko.eq_2; clear h
  have h:=@Nh.eq_def; clear h; have h:=@Nh.eq_1; clear h; have h:=@Nh.eq_2; clear h
  have h:=@Ir.eq_def; clear h; have h:=@Ir.eq_1; clear h; have h:=@Ir.eq_2; clear h
  have h:=@Fi.eq_def; clear h; have h:=@Fi.eq_1; clear h; have h:=@Fi.eq_2; clear h
  have h:=@Gg.eq_def; clear h; have h:=@Gg.eq_1; clear h; have h:=@Gg.eq_2; clear h
  have h:=@Hk.eq_def; clear h; have h:=@Hk.eq_1; clear h; have h:=@Hk.eq_2; clear h
  have h:=@Pk.eq_def; clear h; have h:=@Pk.eq_1; clear h; have h:=@Pk.eq_2; clear h
  have h:=@Nz.eq_def; clear h; have h:=@Nz.eq_1; clear h; have h:=@Nz.eq_2; clear h
  have h:=@Jy.eq_def; clear h; have h:=@Jy.eq_1; clear h; have h:=@Jy.eq_2; clear h
  have h:=@Gm.eq_def; clear h; have h:=@Gm.eq_1; clear h; have h:=@Gm.eq_2; clear h
  have h:=@Kp.eq_def; clear h; have h:=@Kp.eq_1; clear h; have h:=@Kp.eq_2; clear h
  have h:=@Mn.eq_def; clear h; have h:=@Mn.eq_1; clear h; have h:=@Mn.eq_2; clear h
  have h:=@Kc.eq_def; clear h; have h:=@Kc.eq_1; clear h; have h:=@Kc.eq_2; clear h
  have h:=@Lp.eq_def; clear h; have h:=@Lp.eq_1; clear h; have h:=@Lp.eq_2; clear h
  have h:=@Na.eq_def; clear h; have h:=@Na.eq_1; clear h; have h:=@Na.eq_2; clear h
  have h:=@Qa.eq_def; clear h; have h:=@Qa.eq_1; clear h; have h:=@Qa.eq_2; clear h
  have h:=@Ha.eq_def; clear h; have h:=@Ha.eq_1; clear h; have h:=@Ha.eq_2; clear h
  have h:=@Ez.eq_def; clear h; have h:=@Ez.eq_1; clear h; have h:=@Ez.eq_2; clear h
  have h:=@Fu.eq_def; clear h; have h:=@Fu.eq_1; clear h; have h:=@Fu.eq_2; clear h
  have h:=@Hc.eq_def; clear h; have h:=@Hc.eq_1; clear h; have h:=@Hc.eq_2; clear h
  have h:=@Mj.eq_def; clear h; have h:=@Mj.eq_1; clear h; have h:=@Mj.eq_2; clear h
  have h:=@Ni.eq_def; clear h; have h:=@Ni.eq_1; clear h; have h:=@Ni.eq_2; clear h
  have h:=@Pl.eq_def; clear h; have h:=@Pl.eq_1; clear h; have h:=@Pl.eq_2; clear h
  have h:=@Lw.eq_def; clear h; have h:=@Lw.eq_1; clear h; have h:=@Lw.eq_2; clear h
  have h:=@Jm.eq_def; clear h; have h:=@Jm.eq_1; clear h; have h:=@Jm.eq_2; clear h
  have h:=@Fa.eq_def; clear h; have h:=@Fa.eq_1; clear h; have h:=@Fa.eq_2; clear h
  have h:=@Fw.eq_def; clear h; have h:=@Fw.eq_1; clear h; have h:=@Fw.eq_2; clear h
  have h:=@Gt.eq_def; clear h; have h:=@Gt.eq_1; clear h; have h:=@Gt.eq_2; clear h
  have h:=@Ht.eq_def; clear h; have h:=@Ht.eq_1; clear h; have h:=@Ht.eq_2; clear h
  have h:=@Gu.eq_def; clear h; have h:=@Gu.eq_1; clear h; have h:=@Gu.eq_2; clear h
  have h:=@Pm.eq_def; clear h; have h:=@Pm.eq_1; clear h; have h:=@Pm.eq_2; clear h
  have h:=@Ok.eq_def; clear h; have h:=@Ok.eq_1; clear h; have h:=@Ok.eq_2; clear h
  have h:=@Ol.eq_def; clear h; have h:=@Ol.eq_1; clear h; have h:=@Ol.eq_2; clear h
  have h:=@Nb.eq_def; clear h; have h:=@Nb.eq_1; clear h; have h:=@Nb.eq_2; clear h
  have h:=@Ex.eq_def; clear h; have h:=@Ex.eq_1; clear h; have h:=@Ex.eq_2; clear h
  have h:=@Fp.eq_def; clear h; have h:=@Fp.eq_1; clear h; have h:=@Fp.eq_2; clear h
  have h:=@Gk.eq_def; clear h; have h:=@Gk.eq_1; clear h; have h:=@Gk.eq_2; clear h
  have h:=@Hl.eq_def; clear h; have h:=@Hl.eq_1; clear h; have h:=@Hl.eq_2; clear h
  have h:=@Gl.eq_def; clear h; have h:=@Gl.eq_1; clear h; have h:=@Gl.eq_2; clear h
  have h:=@Oa.eq_def; clear h; have h:=@Oa.eq_1; clear h; have h:=@Oa.eq_2; clear h
  have h:=@Mf.eq_def; clear h; have h:=@Mf.eq_1; clear h; have h:=@Mf.eq_2; clear h
  have h:=@Gb.eq_def; clear h; have h:=@Gb.eq_1; clear h; have h:=@Gb.eq_2; clear h
  have h:=@Lx.eq_def; clear h; have h:=@Lx.eq_1; clear h; have h:=@Lx.eq_2; clear h
  have h:=@Kx.eq_def; clear h; have h:=@Kx.eq_1; clear h; have h:=@Kx.eq_2; clear h
  have h:=@Ly.eq_def; clear h; have h:=@Ly.eq_1; clear h; have h:=@Ly.eq_2; clear h
  have h:=@Kf.eq_def; clear h; have h:=@Kf.eq_1; clear h; have h:=@Kf.eq_2; clear h
  have h:=@Mw.eq_def; clear h; have h:=@Mw.eq_1; clear h; have h:=@Mw.eq_2; clear h
  have h:=@Ky.eq_def; clear h; have h:=@Ky.eq_1; clear h; have h:=@Ky.eq_2; clear h
  have h:=@Kd.eq_def; clear h; have h:=@Kd.eq_1; clear h; have h:=@Kd.eq_2; clear h
  have h:=@Mo.eq_def; clear h; have h:=@Mo.eq_1; clear h; have h:=@Mo.eq_2; clear h
  have h:=@Nt.eq_def; clear h; have h:=@Nt.eq_1; clear h; have h:=@Nt.eq_2; clear h
  have h:=@Nu.eq_def; clear h; have h:=@Nu.eq_1; clear h; have h:=@Nu.eq_2; clear h
  have h:=@Mk.eq_def; clear h; have h:=@Mk.eq_1; clear h; have h:=@Mk.eq_2; clear h
  have h:=@Kz.eq_def; clear h; have h:=@Kz.eq_1; clear h; have h:=@Kz.eq_2; clear h
  have h:=@Om.eq_def; clear h; have h:=@Om.eq_1; clear h; have h:=@Om.eq_2; clear h
  have h:=@Nc.eq_def; clear h; have h:=@Nc.eq_1; clear h; have h:=@Nc.eq_2; clear h
  have h:=@Ml.eq_def; clear h; have h:=@Ml.eq_1; clear h; have h:=@Ml.eq_2; clear h
  have h:=@Nj.eq_def; clear h; have h:=@Nj.eq_1; clear h; have h:=@Nj.eq_2; clear h
  have h:=@Mm.eq_def; clear h; have h:=@Mm.eq_1; clear h; have h:=@Mm.eq_2; clear h
  have h:=@Kb.eq_def; clear h; have h:=@Kb.eq_1; clear h; have h:=@Kb.eq_2; clear h
  have h:=@Qb.eq_def; clear h; have h:=@Qb.eq_1; clear h; have h:=@Qb.eq_2; clear h
  have h:=@Fb.eq_def; clear h; have h:=@Fb.eq_1; clear h; have h:=@Fb.eq_2; clear h
  have h:=@Fx.eq_def; clear h; have h:=@Fx.eq_1; clear h; have h:=@Fx.eq_2; clear h
  have h:=@He.eq_def; clear h; have h:=@He.eq_1; clear h; have h:=@He.eq_2; clear h
  have h:=@On.eq_def; clear h; have h:=@On.eq_1; clear h; have h:=@On.eq_2; clear h
  have h:=@Nv.eq_def; clear h; have h:=@Nv.eq_1; clear h; have h:=@Nv.eq_2; clear h
  have h:=@Nd.eq_def; clear h; have h:=@Nd.eq_1; clear h; have h:=@Nd.eq_2; clear h
  have h:=@Nw.eq_def; clear h; have h:=@Nw.eq_1; clear h; have h:=@Nw.eq_2; clear h
  have h:=@Jn.eq_def; clear h; have h:=@Jn.eq_1; clear h; have h:=@Jn.eq_2; clear h
  have h:=@Lt.eq_def; clear h; have h:=@Lt.eq_1; clear h; have h:=@Lt.eq_2; clear h
  have h:=@Me.eq_def; clear h; have h:=@Me.eq_1; clear h; have h:=@Me.eq_2; clear h
  have h:=@Lu.eq_def; clear h; have h:=@Lu.eq_1; clear h; have h:=@Lu.eq_2; clear h
  have h:=@Pe.eq_def; clear h; have h:=@Pe.eq_1; clear h; have h:=@Pe.eq_2; clear h
  have h:=@Pf.eq_def; clear h; have h:=@Pf.eq_1; clear h; have h:=@Pf.eq_2; clear h
  have h:=@Pg.eq_def; clear h; have h:=@Pg.eq_1; clear h; have h:=@Pg.eq_2; clear h
  have h:=@Mc.eq_def; clear h; have h:=@Mc.eq_1; clear h; have h:=@Mc.eq_2; clear h
  have h:=@Ms.eq_def; clear h; have h:=@Ms.eq_1; clear h; have h:=@Ms.eq_2; clear h
  have h:=@Mt.eq_def; clear h; have h:=@Mt.eq_1; clear h; have h:=@Mt.eq_2; clear h
  have h:=@Nk.eq_def; clear h; have h:=@Nk.eq_1; clear h; have h:=@Nk.eq_2; clear h
  have h:=@Ph.eq_def; clear h; have h:=@Ph.eq_1; clear h; have h:=@Ph.eq_2; clear h
  have h:=@Qy.eq_def; clear h; have h:=@Qy.eq_1; clear h; have h:=@Qy.eq_2; clear h
  have h:=@Qz.eq_def; clear h; have h:=@Qz.eq_1; clear h; have h:=@Qz.eq_2; clear h
  have h:=@Mu.eq_def; clear h; have h:=@Mu.eq_1; clear h; have h:=@Mu.eq_2; clear h
  have h:=@Mv.eq_def; clear h; have h:=@Mv.eq_1; clear h; have h:=@Mv.eq_2; clear h
  have h:=@Lv.eq_def; clear h; have h:=@Lv.eq_1; clear h; have h:=@Lv.eq_2; clear h
  have h:=@Rb.eq_def; clear h; have h:=@Rb.eq_1; clear h; have h:=@Rb.eq_2; clear h
  have h:=@Oj.eq_def; clear h; have h:=@Oj.eq_1; clear h; have h:=@Oj.eq_2; clear h
  have h:=@Jo.eq_def; clear h; have h:=@Jo.eq_1; clear h; have h:=@Jo.eq_2; clear h
  trivial
end
end Go.Proofs.YtancihamhcdboaaGreatDoor
