/- The Go functions as plain Lean functions,by program. -/
import Derived.Test.YtjlcjcabljbolaaGreatDoorBase
namespace Go.Proofs.YtjlcjcabljbolaaGreatDoor
open Go
noncomputable section
structure RI where
  L : List Int
  at_ : Int
  deriving DecidableEq,Inhabited
structure Eh where
  Key : ByteArray
  Metres : Int
  Stroke : Int
  Course : Int
  Legs : Int
  Sex : Int
  Young : Int
  Old : Int
  deriving DecidableEq,Inhabited
structure Lu where
  Points : List Int
  Relay : Int
  Most : Int
  deriving DecidableEq,Inhabited
structure Sk where
  Size : Int
  Many : Int
  Reserves : Int
  deriving DecidableEq,Inhabited
structure Mp where
  Races : List Eh
  Table : Lu
  Final : Sk
  deriving DecidableEq,Inhabited
structure Dt where
  Site : ByteArray
  No : Int
  At : Int
  Kind : Int
  Who : ByteArray
  Club : ByteArray
  Race : ByteArray
  Time : Int
  Fault : Int
  Of : ByteArray
  Other : Int
  deriving DecidableEq,Inhabited
structure Kd where
  p_ : Mp
  deeds_ : List Dt
  deriving DecidableEq,Inhabited
structure Eg where
  site_ : ByteArray
  no_ : Int
  deriving DecidableEq,Inhabited
structure Jk where
  Who : ByteArray
  Time : Int
  deriving DecidableEq,Inhabited
structure Ib where
  Who : ByteArray
  Fault : Int
  Reports : List ByteArray
  deriving DecidableEq,Inhabited
structure Dw where
  Who : ByteArray
  Rank : Int
  Time : Int
  Fault : Int
  deriving DecidableEq,Inhabited
structure Ep where
  Num : Int
  Den : Int
  deriving DecidableEq,Inhabited
structure Iw where
  Rank : Int
  Who : ByteArray
  Club : ByteArray
  Time : Int
  Fault : Int
  Points : Ep
  deriving DecidableEq,Inhabited
structure Du where
  Race : ByteArray
  Who : ByteArray
  Club : ByteArray
  Rank : Int
  Relay : Bool
  deriving DecidableEq,Inhabited
structure Ff where
  race_ : ByteArray
  who_ : ByteArray
  deriving DecidableEq,Inhabited
structure Kq where
  Key : ByteArray
  Points : Ep
  deriving DecidableEq,Inhabited
structure Eb where
  x_ : Du
  points_ : Ep
  deriving DecidableEq,Inhabited
structure Ml where
  Year : Int
  Month : Int
  Day : Int
  deriving DecidableEq,Inhabited
structure Nn where
  Key : ByteArray
  Heats : Int
  Long : Int
  Gap : Int
  Break : Int
  deriving DecidableEq,Inhabited
structure Tg where
  From : Int
  To : Int
  deriving DecidableEq,Inhabited
structure Kn where
  Item : ByteArray
  Heat : Int
  Time : Tg
  deriving DecidableEq,Inhabited
structure Rd where
  Race : ByteArray
  Time : Int
  deriving DecidableEq,Inhabited
structure Tz where
  Key : ByteArray
  Race : ByteArray
  Clubs : List ByteArray
  Young : Int
  Old : Int
  deriving DecidableEq,Inhabited
structure Kg where
  At : Int
  Kind : Int
  Id : ByteArray
  Who : ByteArray
  Club : ByteArray
  Race : ByteArray
  Age : Int
  Time : Int
  deriving DecidableEq,Inhabited
def An : ByteArray:=⟨#[]⟩
def Mv : ByteArray:=⟨#[114,97]⟩
def Su : ByteArray:=⟨#[114,98]⟩
def Uy : ByteArray:=⟨#[114,99]⟩
def Sc : ByteArray:=⟨#[115,97]⟩
def EW : ByteArray:=⟨#[115,98]⟩
def Ok : ByteArray:=⟨#[97,110,110]⟩
def AO : ByteArray:=⟨#[98,101,97]⟩
def AP : ByteArray:=⟨#[99,105,100]⟩
def AQ : ByteArray:=⟨#[100,97,110]⟩
def NW : ByteArray:=⟨#[114,122]⟩
def Ts : ByteArray:=⟨#[98,108,117,101]⟩
def DS : ByteArray:=⟨#[114,101,100]⟩
def k_A : ByteArray:=⟨#[65]⟩
def Kl : ByteArray:=⟨#[97,98,99,100,101,102,103,104,105,106,107,108,109,110,111,112,113,114,115,116,117,118,119,120,121,122]⟩
def Ht : ByteArray:=⟨#[97,98,99,100,101,102,103,104,105,106,107,108,109,110,111,112,113,114,115,116,117,118,119,120,121,122,48,49,50,51,52,53,54,55,56,57,45,95]⟩
def Ix : ByteArray:=⟨#[122,122]⟩
def Pl : ByteArray:=⟨#[0,1,2,2,3,3,3,3,4,4,4,4,4,4,4,4,5,5,5,5,5,5,5,5,5,5,5,5,5,5,5,5,6,6,6,6,6,6,6,6,6,6,6,6,6,6,6,6,6,6,6,6,6,6,6,6,6,6,6,6,6,6,6,6,7,7,7,7,7,7,7,7,7,7,7,7,7,7,7,7,7,7,7,7,7,7,7,7,7,7,7,7,7,7,7,7,7,7,7,7,7,7,7,7,7,7,7,7,7,7,7,7,7,7,7,7,7,7,7,7,7,7,7,7,7,7,7,7,8,8,8,8,8,8,8,8,8,8,8,8,8,8,8,8,8,8,8,8,8,8,8,8,8,8,8,8,8,8,8,8,8,8,8,8,8,8,8,8,8,8,8,8,8,8,8,8,8,8,8,8,8,8,8,8,8,8,8,8,8,8,8,8,8,8,8,8,8,8,8,8,8,8,8,8,8,8,8,8,8,8,8,8,8,8,8,8,8,8,8,8,8,8,8,8,8,8,8,8,8,8,8,8,8,8,8,8,8,8,8,8,8,8,8,8,8,8,8,8,8,8,8,8,8,8,8,8]⟩
def Pd : ByteArray:=⟨#[32]⟩
def k_a : ByteArray:=⟨#[97]⟩
def k_r : ByteArray:=⟨#[114]⟩
def k_k : ByteArray:=⟨#[107]⟩
def k_i : ByteArray:=⟨#[105]⟩
def Pw (p_x : Int) (p_n : Int) : Option Int :=
  if decide (p_n < 1) then
  some 0
  else
  Chk (!decide (p_n = 0)) (
  Gl (fun (x1 : Int) =>
  some x1) (fun j1 =>
  if decide ((Int.tmod p_x p_n) < 0) then
  j1 (W ((Int.tmod p_x p_n) + p_n))
  else
  j1 (Int.tmod p_x p_n)))
def Po (p_s_L : List Int) (p_s_at : Int) (p_n : Int) : Option (Int × Int) :=
  if decide ((p_s_L.length : Int) = 0) then
  Option.bind (Pw (W ((W (p_s_at + 1)) * 7919)) p_n) (fun r1 =>
  some (r1,W (p_s_at + 1)))
  else
  Chk (!decide ((p_s_L.length : Int) = 0)) (
  Chk (!decide ((p_s_L.length : Int) = 0)) (
  Chk (inB (Int.tmod (W ((W (p_s_at + 1)) - 1)) (p_s_L.length : Int)) p_s_L.length) (
  Option.bind (Pw (nth p_s_L (Int.tmod (W ((W (p_s_at + 1)) - 1)) (p_s_L.length : Int))) 1073741824) (fun r2 =>
  Option.bind (Pw (W (r2 + (W ((W (Int.tdiv (W ((W (p_s_at + 1)) - 1)) (p_s_L.length : Int))) * (W (7919 + (Int.tmod (W ((W (p_s_at + 1)) - 1)) (p_s_L.length : Int)))))))) p_n) (fun r3 =>
  some (r3,W (p_s_at + 1)))))))
def Ru (p_s_L : List Int) (p_s_at : Int) (p_n : Int) : Option (Bool × Int) :=
  Option.bind (Po p_s_L p_s_at p_n) (fun r1 =>
  some (decide (r1.1 = 0),r1.2))
def Jl (p_s_L : List Int) (p_s_at : Int) (p_l : List Int) : Option (Int × Int) :=
  Option.bind (Po p_s_L p_s_at (p_l.length : Int)) (fun r1 =>
  Chk (inB r1.1 p_l.length) (
  some ((nth p_l r1.1),r1.2)))
def Sd (p_s_L : List Int) (p_s_at : Int) (p_key : ByteArray) : Option (Eh × Int) :=
  Option.bind (Jl p_s_L p_s_at [50,100,200]) (fun r1 =>
  Option.bind (Jl p_s_L r1.2 [1,2,3,4]) (fun r2 =>
  Option.bind (Jl p_s_L r2.2 [25,50]) (fun r3 =>
  Option.bind (Jl p_s_L r3.2 [1,1,1,4]) (fun r4 =>
  Option.bind (Jl p_s_L r4.2 [0,1,2]) (fun r5 =>
  Option.bind (Jl p_s_L r5.2 [0,0,5,10]) (fun r6 =>
  Option.bind (Jl p_s_L r6.2 [0,5,90]) (fun r7 =>
  some ((Eh.mk p_key r1.1 r2.1 r3.1 r4.1 r5.1 r6.1 (W (r6.1 + r7.1))),r7.2))))))))
def Kf (p_s_L : List Int) (j1 : (List Eh) → Int → Option ((List Eh) × Int)) : List ByteArray → Nat → (List Eh) → Int → Option ((List Eh) × Int)
  | [],_,x1,x2=>j1 x1 x2
  | y1 :: ys1,i1,x1,x2=>Gl (fun (x3 : List Eh) (x4 : Int) =>
  Kf p_s_L j1 ys1 (i1 + 1) x3 x4) (fun j2 =>
  Option.bind (Ru p_s_L x2 6) (fun r1 =>
  Gl (fun (x5 : List Eh) (x6 : Int) =>
  j2 x5 x6) (fun j3 =>
  if !r1.1 then
  Option.bind (Sd p_s_L r1.2 y1) (fun r2 =>
  Chk (Rt x1.length) (
  j3 (x1 ++ [r2.1]) r2.2))
  else
  j3 x1 r1.2)))
def Th (p_s_L : List Int) (p_s_at : Int) : Option ((List Eh) × Int) :=
  Gl (fun (x1 : List Eh) (x2 : Int) =>
  some (x1,x2)) (fun j1 =>
  Kf p_s_L j1 ([Mv,Su,Uy] : List ByteArray) 0 ([] : List Eh) p_s_at)
def Nl (p_s_L : List Int) (p_s_at : Int) (p_low : Int) (p_high : Int) : Option (Int × Int) :=
  if decide (p_high < p_low) then
  some (p_low,p_s_at)
  else
  Option.bind (Po p_s_L p_s_at (W ((W (p_high - p_low)) + 1))) (fun r1 =>
  some (W (p_low + r1.1),r1.2))
def Js (r4 : Int × Int) (p_s_L : List Int) (j1 : (List Int) → Int → Option (Lu × Int)) : Nat → (List Int) → Int → Int → Int → Option (Lu × Int)
  | 0,_,_,_,_=>none
  | m1 + 1,x1,x2,x3,x4=>if decide (x4 < r4.1) then
  Chk (Rt x1.length) (
  Option.bind (Jl p_s_L x2 [0,1,2,3]) (fun r5 =>
  Js r4 p_s_L j1 m1 (x1 ++ [x3]) r5.2 (EP 0 (W (x3 - r5.1))) (W (x4 + 1))))
  else
  j1 x1 x2
def Qo (p_s_L : List Int) (p_s_at : Int) : Option (Lu × Int) :=
  Option.bind (Jl p_s_L p_s_at [1,2]) (fun r1 =>
  Option.bind (Jl p_s_L r1.2 [0,0,1,2]) (fun r2 =>
  Option.bind (Jl p_s_L r2.2 [10,9,7,5]) (fun r3 =>
  Option.bind (Nl p_s_L r3.2 0 5) (fun r4 =>
  Gl (fun (x1 : List Int) (x2 : Int) =>
  some ((Lu.mk x1 r1.1 r2.1),x2)) (fun j1 =>
  Js r4 p_s_L j1 ((r4.1 - 0).toNat + 2) ([] : List Int) r4.2 r3.1 0)))))
def It (j1 : (List Eh) → Option (List Eh)) : Nat → (List Eh) → Int → Int → Option (List Eh)
  | 0,_,_,_=>none
  | m1 + 1,x1,x2,x3=>if decide (x2 < x3) then
  Chk (inB x3 x1.length) (
  Chk (inB x2 x1.length) (
  Chk (inB x2 x1.length) (
  Chk (inB x3 (x1.set x2.toNat (nth x1 x3)).length) (
  It j1 m1 ((x1.set x2.toNat (nth x1 x3)).set x3.toNat (nth x1 x2)) (W (x2 + 1)) (W (x3 - 1))))))
  else
  j1 x1
def Pi (p_s : List Eh) : Option (List Eh) :=
  Gl (fun (x1 : List Eh) =>
  some x1) (fun j1 =>
  It j1 (((W ((p_s.length : Int) - 1)) - 0).toNat + 2) p_s 0 (W ((p_s.length : Int) - 1)))
def Rl (p_s_L : List Int) (p_s_at : Int) : Option (Mp × Int) :=
  Option.bind (Th p_s_L p_s_at) (fun r1 =>
  Option.bind (Qo p_s_L r1.2) (fun r2 =>
  Option.bind (Nl p_s_L r2.2 1 3) (fun r3 =>
  Option.bind (Nl p_s_L r3.2 1 2) (fun r4 =>
  Option.bind (Nl p_s_L r4.2 0 2) (fun r5 =>
  Option.bind (Pi r1.1) (fun r6 =>
  some ((Mp.mk r6 r2.1 (Sk.mk r3.1 r4.1 r5.1)),r5.2)))))))
def Nq (p_s_L : List Int) (p_s_at : Int) (p_l : List ByteArray) : Option (ByteArray × Int) :=
  Option.bind (Po p_s_L p_s_at (p_l.length : Int)) (fun r1 =>
  Chk (inB r1.1 p_l.length) (
  some ((nth p_l r1.1),r1.2)))
def Rw (p_s_L : List Int) (p_s_at : Int) (p_low : Int) (p_high : Int) : Option (Int × Int) :=
  Option.bind (Ru p_s_L p_s_at 12) (fun r1 =>
  if r1.1 then
  Option.bind (Jl p_s_L r1.2 [W (p_low - 1),W (p_high + 1),p_low,p_high,(-1099511627776),1099511627776]) (fun r2 =>
  some (r2.1,r2.2))
  else
  Option.bind (Nl p_s_L r1.2 p_low p_high) (fun r3 =>
  some (r3.1,r3.2)))
def Ua (p_n : Int) : Int :=
  if decide (p_n < 0) then
  (-1)
  else
  if decide (0 < p_n) then
  1
  else
  0
def Hi (s t : ByteArray) : Int:=Lib.compareBytes s.data.toList t.data.toList
def Ji (p_a : Dt) (p_b : Dt) : Int :=
  if !decide (p_a.At = p_b.At) then
  (Ua (W (p_a.At - p_b.At)))
  else
  if !decide (p_a.Site = p_b.Site) then
  (Hi p_a.Site p_b.Site)
  else
  (Ua (W (p_a.No - p_b.No)))
def El (p_a : Int) (j2 : (List Dt) → Option (List Dt)) : Nat → (List Dt) → Int → Option (List Dt)
  | 0,_,_=>none
  | m2 + 1,x3,x4=>Gl (fun (x5 : Bool) =>
  if x5 then
  Chk (inB (W (x4 - 1)) x3.length) (
  Chk (inB x4 x3.length) (
  Chk (inB x4 x3.length) (
  Chk (inB (W (x4 - 1)) (x3.set x4.toNat (nth x3 (W (x4 - 1)))).length) (
  El p_a j2 m2 ((x3.set x4.toNat (nth x3 (W (x4 - 1)))).set ((W (x4 - 1)).toNat) (nth x3 x4)) (W (x4 - 1))))))
  else
  j2 x3) (fun j3 =>
  if decide (p_a < x4) then
  Chk (inB x4 x3.length) (
  Chk (inB (W (x4 - 1)) x3.length) (
  j3 (decide ((Ji (nth x3 x4) (nth x3 (W (x4 - 1)))) < 0))))
  else
  j3 false)
def Ey (p_b : Int) (p_a : Int) (j1 : (List Dt) → Option (List Dt)) : Nat → (List Dt) → Int → Option (List Dt)
  | 0,_,_=>none
  | m1 + 1,x1,x2=>if decide (x2 < p_b) then
  Gl (fun (x3 : List Dt) =>
  Ey p_b p_a j1 m1 x3 (W (x2 + 1))) (fun j2 =>
  El p_a j2 ((x2 - p_a).toNat + 2) x1 x2)
  else
  j1 x1
def Gz (p_data : List Dt) (p_a : Int) (p_b : Int) : Option (List Dt) :=
  Gl (fun (x1 : List Dt) =>
  some x1) (fun j1 =>
  Ey p_b p_a j1 ((p_b - (W (p_a + 1))).toNat + 2) p_data (W (p_a + 1)))
def Ft (p_n : Int) (j1 : (List Dt) → Int → Option (List Dt)) : Nat → (List Dt) → Int → Int → Option (List Dt)
  | 0,_,_,_=>none
  | m1 + 1,x1,x2,x3=>if decide (x3 ≤ p_n) then
  Option.bind (Gz x1 x2 x3) (fun r1 =>
  Ft p_n j1 m1 r1 x3 (W (x3 + 20)))
  else
  j1 x1 x2
def Gq (p_n : Int) (j3 : Int → Option (List Dt)) : Nat → Int → Int → Option (List Dt)
  | 0,_,_=>none
  | _ + 1,x5,x6=>if decide (x6 ≤ p_n) then
  none
  else
  j3 x5
def Fu (p_n : Int) (j2 : Option (List Dt)) : Nat → Int → Option (List Dt)
  | 0,_=>none
  | m2 + 1,x4=>if decide (x4 < p_n) then
  Gl (fun (x5 : Int) =>
  if decide ((W (x5 + x4)) < p_n) then
  none
  else
  Fu p_n j2 m2 (W (x4 * 2))) (fun j3 =>
  Gq p_n j3 ((p_n - (W (2 * x4))).toNat + 2) 0 (W (2 * x4)))
  else
  j2
def Jc (p_data : List Dt) (p_n : Int) : Option (List Dt) :=
  Gl (fun (x1 : List Dt) (x2 : Int) =>
  Option.bind (Gz x1 x2 p_n) (fun r2 =>
  Gl (some r2) (fun j2 =>
  Fu p_n j2 ((p_n - 20).toNat + 2) 20))) (fun j1 =>
  Ft p_n j1 ((p_n - 20).toNat + 2) p_data 0 20)
def Hl (p_x : List Dt) : Option (List Dt) :=
  Option.bind (Jc p_x (p_x.length : Int)) (fun r1 =>
  some r1)
def Ms (p_many : Int) (p_s_L : List Int) (j1 : (List (ByteArray × Int)) → (List Dt) → Int → Option ((List Dt) × Int)) : Nat → (List (ByteArray × Int)) → (List Dt) → Int → Int → Int → Option ((List Dt) × Int)
  | 0,_,_,_,_,_=>none
  | m1 + 1,x1,x2,x3,x4,x5=>if decide (x5 < p_many) then
  Option.bind (Jl p_s_L x3 [0,1,5]) (fun r1 =>
  Option.bind (Nq p_s_L r1.2 [Sc,Sc,EW]) (fun r2 =>
  Option.bind (Jl p_s_L r2.2 [1,1,1,3,3,3,2,4]) (fun r3 =>
  Gl (fun (x6 : ByteArray) (x7 : ByteArray) (x8 : Int) =>
  Gl (fun (x9 : ByteArray) (x10 : Int) (x11 : Int) (x12 : ByteArray) (x13 : Int) (x14 : Int) =>
  Option.bind (Ru p_s_L x14 100) (fun r12 =>
  Gl (fun (x29 : ByteArray) (x30 : Int) (x31 : Int) (x32 : ByteArray) (x33 : ByteArray) (x34 : ByteArray) (x35 : Int) (x36 : Int) (x37 : Int) (x38 : Int) =>
  Chk (Rt x2.length) (
  Ms p_many p_s_L j1 m1 (Gj x1 r2.1 (W ((Ee x1 r2.1 0) + 1))) (x2 ++ [(Dt.mk x29 x30 (W (x4 + r1.1)) x31 x32 x33 x34 x35 x36 x12 x37)]) x38 (W (x4 + r1.1)) (W (x5 + 1)))) (fun j7 =>
  if r12.1 then
  Option.bind (Po p_s_L r12.2 4) (fun r13 =>
  Gl (fun (x39 : ByteArray) (x40 : Int) (x41 : Int) (x42 : ByteArray) (x43 : ByteArray) (x44 : ByteArray) (x45 : Int) (x46 : Int) (x47 : Int) (x48 : Int) =>
  j7 x39 x40 x41 x42 x43 x44 x45 x46 x47 x48) (fun j8 =>
  Gl (fun (x49 : ByteArray) (x50 : Int) (x51 : Int) (x52 : ByteArray) (x53 : ByteArray) (x54 : ByteArray) (x55 : Int) (x56 : Int) (x57 : Int) (x58 : Int) =>
  j8 x49 x50 x51 x52 x53 x54 x55 x56 x57 x58) (fun j9 =>
  if decide (r13.1 = 0) then
  Option.bind (Nq p_s_L r13.2 [An,Sc]) (fun r14 =>
  Option.bind (Rw p_s_L r14.2 1 9) (fun r15 =>
  j9 r14.1 r15.1 r3.1 x6 x9 x7 x10 x11 x13 r15.2))
  else
  Gl (fun (x59 : Int) (x60 : ByteArray) (x61 : ByteArray) (x62 : ByteArray) (x63 : Int) (x64 : Int) (x65 : Int) (x66 : Int) =>
  j9 r2.1 (Ee (Gj x1 r2.1 (W ((Ee x1 r2.1 0) + 1))) r2.1 0) x59 x60 x61 x62 x63 x64 x65 x66) (fun j10 =>
  if decide (r13.1 = 1) then
  Option.bind (Rw p_s_L r13.2 1 4) (fun r16 =>
  j10 r16.1 x6 x9 x7 x10 x11 x13 r16.2)
  else
  Gl (fun (x67 : ByteArray) (x68 : ByteArray) (x69 : ByteArray) (x70 : Int) (x71 : Int) (x72 : Int) (x73 : Int) =>
  j10 r3.1 x67 x68 x69 x70 x71 x72 x73) (fun j11 =>
  if decide (r13.1 = 2) then
  Option.bind (Nq p_s_L r13.2 [An,Ok]) (fun r17 =>
  Option.bind (Nq p_s_L r17.2 [k_A,Ts]) (fun r18 =>
  Option.bind (Nq p_s_L r18.2 [An,Mv]) (fun r19 =>
  j11 r17.1 r18.1 r19.1 x10 x11 x13 r19.2)))
  else
  Option.bind (Rw p_s_L r13.2 0 360000) (fun r20 =>
  Option.bind (Rw p_s_L r20.2 0 8) (fun r21 =>
  Option.bind (Rw p_s_L r21.2 0 5) (fun r22 =>
  j11 x6 x9 x7 r20.1 r21.1 r22.1 r22.2))))))))
  else
  j7 r2.1 (Ee (Gj x1 r2.1 (W ((Ee x1 r2.1 0) + 1))) r2.1 0) r3.1 x6 x9 x7 x10 x11 x13 r12.2))) (fun j3 =>
  Gl (fun (x15 : ByteArray) (x16 : Int) (x17 : Int) (x18 : ByteArray) (x19 : Int) (x20 : Int) =>
  j3 x15 x16 x17 x18 x19 x20) (fun j4 =>
  if decide (r3.1 = 1) then
  Option.bind (Nq p_s_L x8 [Ts,DS,An]) (fun r6 =>
  Option.bind (Jl p_s_L r6.2 [0,5900,6000,7000]) (fun r7 =>
  j4 r6.1 r7.1 0 An 0 r7.2))
  else
  Gl (fun (x21 : Int) (x22 : Int) (x23 : ByteArray) (x24 : Int) (x25 : Int) =>
  j4 An x21 x22 x23 x24 x25) (fun j5 =>
  if decide (r3.1 = 3) then
  Option.bind (Jl p_s_L x8 [0,5900,5900,6000,6100]) (fun r8 =>
  Option.bind (Jl p_s_L r8.2 [0,0,0,0,3]) (fun r9 =>
  j5 r8.1 r9.1 An 0 r9.2))
  else
  Gl (fun (x26 : ByteArray) (x27 : Int) (x28 : Int) =>
  j5 0 0 x26 x27 x28) (fun j6 =>
  if decide (r3.1 = 4) then
  Option.bind (Nq p_s_L x8 [Sc,Sc,EW]) (fun r10 =>
  Option.bind (Nl p_s_L r10.2 1 (EP 1 (Ee (Gj x1 r2.1 (W ((Ee x1 r2.1 0) + 1))) Sc 0))) (fun r11 =>
  j6 r10.1 r11.1 r11.2))
  else
  j6 An 0 x8))))) (fun j2 =>
  if !decide (r3.1 = 4) then
  Option.bind (Nq p_s_L r3.2 [Ok,AO,AP,AQ]) (fun r4 =>
  Option.bind (Nq p_s_L r4.2 [Mv,Mv,Su,NW]) (fun r5 =>
  j2 r4.1 r5.1 r5.2))
  else
  j2 An An r3.2))))
  else
  j1 x1 x2 x3
def Uz (p_s_L : List Int) (p_s_at : Int) (p_many : Int) : Option ((List Dt) × Int) :=
  Gl (fun (x1 : List (ByteArray × Int)) (x2 : List Dt) (x3 : Int) =>
  Option.bind (Hl x2) (fun r23 =>
  some (r23,x3))) (fun j1 =>
  Ms p_many p_s_L j1 ((p_many - 0).toNat + 2) ([] : List (ByteArray × Int)) ([] : List Dt) p_s_at 0 0)
def Ke (p_n : Int) (p_low : Int) (p_high : Int) : Bool :=
  ((decide (p_low ≤ p_n)) && (decide (p_n ≤ p_high)))
def So (s : ByteArray) (c : Int) : Int:=Lib.indexByte s.data.toList c.toNat.toUInt8
def Lb (p_s : ByteArray) (p_some : ByteArray) (j1 : Option Bool) : Nat → Int → Option Bool
  | 0,_=>none
  | m1 + 1,x1=>if decide (x1 < (p_s.size : Int)) then
  Chk (inB x1 p_s.size) (
  if decide ((So p_some (Xx p_s x1)) < 0) then
  some false
  else
  Lb p_s p_some j1 m1 (W (x1 + 1)))
  else
  j1
def Sh (p_s : ByteArray) (p_some : ByteArray) : Option Bool :=
  Gl (some true) (fun j1 =>
  Lb p_s p_some j1 (((p_s.size : Int) - 0).toNat + 2) 0)
def Oo (p_s : ByteArray) : Option Bool :=
  Gl (fun (c1 : Bool) =>
  Gl (fun (c2 : Bool) =>
  some c2) (fun j2 =>
  if c1 then Option.bind (Sh p_s Ht) (fun r2 =>
  j2 (c1 && r2)) else j2 (c1 && true))) (fun j1 =>
  if (Ke (p_s.size : Int) 1 40) then Chk (CC 0 1 p_s.size) (
  Option.bind (Sh (LN p_s 0 1) Kl) (fun r1 =>
  j1 ((Ke (p_s.size : Int) 1 40) && r1))) else j1 ((Ke (p_s.size : Int) 1 40) && true))
def Pf (p_at : Int) : Bool :=
  (Ke p_at 0 345686399999)
def Px (p_d : Dt) : Option Int :=
  Option.bind (Oo p_d.Site) (fun r1 =>
  if !r1 then
  some 5
  else
  if ((!(Ke p_d.No 1 1000000)) || (!(Pf p_d.At))) then
  some 1
  else
  if !(Ke p_d.Kind 1 4) then
  some 4
  else
  Gl (fun (x1 : ByteArray) (x2 : ByteArray) (x3 : ByteArray) (x4 : Int) =>
  Gl (fun (x5 : ByteArray) =>
  Gl (fun (x6 : Int) =>
  Gl (fun (x7 : Int) =>
  if !decide (p_d = (Dt.mk p_d.Site p_d.No p_d.At p_d.Kind x1 x5 x2 x6 x7 x3 x4)) then
  some 3
  else
  some 0) (fun j7 =>
  if decide (p_d.Kind = 3) then
  if !(Ke p_d.Fault 0 8) then
  some 1
  else
  j7 p_d.Fault
  else
  j7 0)) (fun j6 =>
  if ((decide (p_d.Kind = 1)) || (decide (p_d.Kind = 3))) then
  if !(Ke p_d.Time 0 360000) then
  some 1
  else
  j6 p_d.Time
  else
  j6 0)) (fun j5 =>
  if decide (p_d.Kind = 1) then
  j5 p_d.Club
  else
  j5 An)) (fun j1 =>
  if decide (p_d.Kind = 4) then
  Option.bind (Oo p_d.Of) (fun r2 =>
  if !r2 then
  some 5
  else
  if !(Ke p_d.Other 1 1000000) then
  some 1
  else
  j1 An An p_d.Of p_d.Other)
  else
  Option.bind (Oo p_d.Who) (fun r3 =>
  Gl (fun (c1 : Bool) =>
  Gl (fun (c2 : Bool) =>
  if c2 then
  some 5
  else
  j1 p_d.Who p_d.Race An 0) (fun j3 =>
  if c1 then j3 (c1 || true) else Gl (fun (c3 : Bool) =>
  j3 (c1 || c3)) (fun j4 =>
  if ((decide (p_d.Kind = 1)) && (!decide (p_d.Club = An))) then Option.bind (Oo p_d.Club) (fun r5 =>
  j4 (((decide (p_d.Kind = 1)) && (!decide (p_d.Club = An))) && (!r5))) else j4 (((decide (p_d.Kind = 1)) && (!decide (p_d.Club = An))) && true)))) (fun j2 =>
  if (!r3) then j2 ((!r3) || true) else Option.bind (Oo p_d.Race) (fun r4 =>
  j2 ((!r3) || (!r4)))))))
def Uf (p_a : Dt) (p_b : Dt) : Bool :=
  ((decide (p_a.Site = p_b.Site)) && (decide (p_a.No = p_b.No)))
def Oh (p_o : Dt) (p_a1 : Dt) : Bool :=
  (Uf p_o p_a1)
def Ew (p_f_0 : Dt) (j1 : Int) : List Dt → Nat → Int
  | [],_=>j1
  | y1 :: ys1,i1=>if (Oh y1 p_f_0) then
  (i1 : Int)
  else
  Ew p_f_0 j1 ys1 (i1 + 1)
def Lc (p_s : List Dt) (p_f_0 : Dt) : Int :=
  Gl ((-1)) (fun j1 =>
  Ew p_f_0 j1 p_s 0)
def Ir (p_s : List Dt) (p_f_0 : Dt) : Bool :=
  decide (0 ≤ (Lc p_s p_f_0))
def Hu (p_l : List Dt) (j1 : Option Int) : List Dt → Nat → Option Int
  | [],_=>j1
  | y1 :: ys1,i1=>Option.bind (Px y1) (fun r1 =>
  if !decide (r1 = 0) then
  some r1
  else
  Gl (fun (x1 : Bool) =>
  if x1 then
  some 7
  else
  Hu p_l j1 ys1 (i1 + 1)) (fun j2 =>
  if decide (0 < (i1 : Int)) then
  Chk (inB (W ((i1 : Int) - 1)) p_l.length) (
  j2 (decide (0 ≤ (Ji (nth p_l (W ((i1 : Int) - 1))) y1))))
  else
  j2 false))
def Ii (p_l : List Dt) (j3 : Option Int) : List Dt → Nat → Option Int
  | [],_=>j3
  | y2 :: ys2,i2=>Chk (CC 0 (i2 : Int) p_l.length) (
  if (Ir (cut p_l 0 (i2 : Int)) y2) then
  some 6
  else
  Ii p_l j3 ys2 (i2 + 1))
def Pj (p_l : List Dt) : Option Int :=
  if decide (2000 < (p_l.length : Int)) then
  some 2
  else
  Gl (Gl (some 0) (fun j3 =>
  Ii p_l j3 p_l 0)) (fun j1 =>
  Hu p_l j1 p_l 0)
def Jt (p_s_L : List Int) (p_many : Int) (j1 : Int → Option ((List Dt) × Int)) : Nat → Int → Int → Option ((List Dt) × Int)
  | 0,_,_=>none
  | m1 + 1,x1,x2=>if decide (x2 < 5) then
  Option.bind (Uz p_s_L x1 p_many) (fun r1 =>
  Option.bind (Pj r1.1) (fun r2 =>
  if decide (r2 = 0) then
  some (r1.1,r1.2)
  else
  Jt p_s_L p_many j1 m1 r1.2 (W (x2 + 1))))
  else
  j1 x1
def Qp (p_s_L : List Int) (p_s_at : Int) (p_many : Int) : Option ((List Dt) × Int) :=
  Gl (fun (x1 : Int) =>
  some (([] : List Dt),x1)) (fun j1 =>
  Jt p_s_L p_many j1 7 p_s_at 0)
def Sp (p_s : List Dt) : Option (List Dt) :=
  Chk (decide ((([] : List Dt) : List Dt).length + p_s.length < 1073741824)) (
  some ((([] : List Dt) : List Dt) ++ p_s))
def Vc (s c : ByteArray) : Option ByteArray :=
  Chk (decide (s.size ≤ 9223372036854775807)) (Chk (decide (c.size < 4294967281)) (Chk (c.data.toList.all fun b=>decide (b.toNat < 128)) (some ⟨(Lib.trimS s.data.toList c.data.toList).toArray⟩)))
def Gd (p_s : ByteArray) : Option Bool :=
  Gl (fun (c1 : Bool) =>
  Gl (fun (c2 : Bool) =>
  Gl (fun (c3 : Bool) =>
  some c3) (fun j3 =>
  if c2 then Option.bind (Vc p_s Ht) (fun r1 =>
  j3 (c2 && (decide (r1 = An)))) else j3 (c2 && true))) (fun j2 =>
  if c1 then Chk (inB 0 p_s.size) (
  j2 (c1 && (decide ((Xx p_s 0) ≤ 122)))) else j2 (c1 && true))) (fun j1 =>
  if ((decide (1 ≤ (p_s.size : Int))) && (decide ((p_s.size : Int) ≤ 40))) then Chk (inB 0 p_s.size) (
  j1 (((decide (1 ≤ (p_s.size : Int))) && (decide ((p_s.size : Int) ≤ 40))) && (decide (97 ≤ (Xx p_s 0))))) else j1 (((decide (1 ≤ (p_s.size : Int))) && (decide ((p_s.size : Int) ≤ 40))) && true))
def Dx (p_n : Int) (p_low : Int) (p_high : Int) : Bool :=
  ((decide (p_low ≤ p_n)) && (decide (p_n ≤ p_high)))
def Nr (p_r : Eh) : Option Int :=
  Option.bind (Gd p_r.Key) (fun r1 =>
  if !r1 then
  some 5
  else
  if ((!(Dx p_r.Stroke 1 5)) || (!(Dx p_r.Sex 0 2))) then
  some 4
  else
  if (((((((!decide (p_r.Course = 25)) && (!decide (p_r.Course = 50))) || (!(Dx p_r.Legs 1 4))) || (!(Dx p_r.Metres 25 1500))) || (decide (p_r.Young < 0))) || (decide (p_r.Old < p_r.Young))) || (decide (120 < p_r.Old))) then
  some 1
  else
  Chk (!decide (p_r.Course = 0)) (
  if !decide ((Int.tmod p_r.Metres p_r.Course) = 0) then
  some 3
  else
  Gl (fun (c1 : Bool) =>
  Gl (fun (x1 : Bool) =>
  if x1 then
  some 16
  else
  some 0) (fun j2 =>
  if c1 then
  j2 c1
  else
  j2 (((decide (p_r.Stroke = 5)) && (decide (1 < p_r.Legs))) && (!decide (p_r.Legs = 4))))) (fun j1 =>
  if ((decide (p_r.Stroke = 5)) && (decide (p_r.Legs = 1))) then Chk (!decide ((W (4 * p_r.Course)) = 0)) (
  j1 (((decide (p_r.Stroke = 5)) && (decide (p_r.Legs = 1))) && (!decide ((Int.tmod p_r.Metres (W (4 * p_r.Course))) = 0)))) else j1 (((decide (p_r.Stroke = 5)) && (decide (p_r.Legs = 1))) && true))))
def Sq (p_x : Eh) (p_a1 : Eh) : Bool :=
  decide (p_x.Key = p_a1.Key)
def Fy (p_f_0 : Eh) (j1 : Int) : List Eh → Nat → Int
  | [],_=>j1
  | y1 :: ys1,i1=>if (Sq y1 p_f_0) then
  (i1 : Int)
  else
  Fy p_f_0 j1 ys1 (i1 + 1)
def Kj (p_s : List Eh) (p_f_0 : Eh) : Int :=
  Gl ((-1)) (fun j1 =>
  Fy p_f_0 j1 p_s 0)
def Ij (p_s : List Eh) (p_f_0 : Eh) : Bool :=
  decide (0 ≤ (Kj p_s p_f_0))
def Ju (p_t : Lu) (j1 : Option Int) : List Int → Nat → Option Int
  | [],_=>j1
  | y1 :: ys1,i1=>if !(Dx y1 0 10000) then
  some 1
  else
  Gl (fun (c1 : Bool) =>
  if c1 then
  some 7
  else
  Ju p_t j1 ys1 (i1 + 1)) (fun j2 =>
  if (decide (0 < (i1 : Int))) then Chk (inB (W ((i1 : Int) - 1)) p_t.Points.length) (
  j2 ((decide (0 < (i1 : Int))) && (decide ((nth p_t.Points (W ((i1 : Int) - 1))) < y1)))) else j2 ((decide (0 < (i1 : Int))) && true))
def Oi (p_t : Lu) : Option Int :=
  if decide (40 < (p_t.Points.length : Int)) then
  some 2
  else
  Gl (if ((!(Dx p_t.Relay 1 10)) || (!(Dx p_t.Most 0 10))) then
  some 1
  else
  some 0) (fun j1 =>
  Ju p_t j1 p_t.Points 0)
def Qk (p_f : Sk) : Int :=
  if (((!(Dx p_f.Size 1 10)) || (!(Dx p_f.Many 1 5))) || (!(Dx p_f.Reserves 0 10))) then
  1
  else
  0
def Lj (p_p : Mp) (j1 : Option Int) : List Eh → Nat → Option Int
  | [],_=>j1
  | y1 :: ys1,i1=>Option.bind (Nr y1) (fun r1 =>
  if !decide (r1 = 0) then
  some r1
  else
  Chk (CC 0 (i1 : Int) p_p.Races.length) (
  if (Ij (cut p_p.Races 0 (i1 : Int)) y1) then
  some 6
  else
  Lj p_p j1 ys1 (i1 + 1)))
def Sy (p_p : Mp) : Option Int :=
  if decide (100 < (p_p.Races.length : Int)) then
  some 2
  else
  Gl (Option.bind (Oi p_p.Table) (fun r2 =>
  if !decide (r2 = 0) then
  some r2
  else
  some (Qk p_p.Final))) (fun j1 =>
  Lj p_p j1 p_p.Races 0)
def Ik (p_n : Int) : Bool :=
  ((decide (0 ≤ p_n)) && (decide (p_n < 345686400000)))
def Nd (p_x : Dt) : Option Int :=
  Option.bind (Gd p_x.Site) (fun r1 =>
  if !r1 then
  some 5
  else
  if ((!(Dx p_x.No 1 1000000)) || (!(Ik p_x.At))) then
  some 1
  else
  if !(Dx p_x.Kind 1 4) then
  some 4
  else
  Gl (fun (c1 : Bool) =>
  Gl (fun (x1 : Bool) =>
  if x1 then
  some 5
  else
  Gl (fun (x2 : Bool) =>
  if x2 then
  some 1
  else
  Gl (fun (c4 : Bool) =>
  if c4 then
  some 5
  else
  if ((decide (p_x.Kind = 4)) && (!(Dx p_x.Other 1 1000000))) then
  some 1
  else
  Gl (fun (x3 : ByteArray) (x4 : ByteArray) (x5 : ByteArray) (x6 : Int) (x7 : Int) (x8 : ByteArray) (x9 : Int) =>
  if !decide (p_x = (Dt.mk p_x.Site p_x.No p_x.At p_x.Kind x3 x4 x5 x6 x7 x8 x9)) then
  some 3
  else
  some 0) (fun j7 =>
  Gl (fun (x10 : ByteArray) (x11 : ByteArray) (x12 : ByteArray) (x13 : Int) (x14 : Int) (x15 : ByteArray) (x16 : Int) =>
  j7 x10 x11 x12 x13 x14 x15 x16) (fun j8 =>
  if decide (p_x.Kind = 1) then
  j8 p_x.Who p_x.Club p_x.Race p_x.Time 0 An 0
  else
  Gl (fun (x17 : ByteArray) (x18 : ByteArray) (x19 : Int) (x20 : Int) (x21 : ByteArray) (x22 : Int) =>
  j8 x17 An x18 x19 x20 x21 x22) (fun j9 =>
  if decide (p_x.Kind = 3) then
  j9 p_x.Who p_x.Race p_x.Time p_x.Fault An 0
  else
  Gl (fun (x23 : ByteArray) (x24 : ByteArray) (x25 : ByteArray) (x26 : Int) =>
  j9 x23 x24 0 0 x25 x26) (fun j10 =>
  if decide (p_x.Kind = 4) then
  j10 An An p_x.Of p_x.Other
  else
  j10 p_x.Who p_x.Race An 0))))) (fun j6 =>
  if (decide (p_x.Kind = 4)) then Option.bind (Gd p_x.Of) (fun r5 =>
  j6 ((decide (p_x.Kind = 4)) && (!r5))) else j6 ((decide (p_x.Kind = 4)) && true))) (fun j5 =>
  if (((decide (p_x.Kind = 1)) || (decide (p_x.Kind = 3))) && (!(Dx p_x.Time 0 360000))) then
  j5 (((decide (p_x.Kind = 1)) || (decide (p_x.Kind = 3))) && (!(Dx p_x.Time 0 360000)))
  else
  j5 ((decide (p_x.Kind = 3)) && (!(Dx p_x.Fault 0 8))))) (fun j3 =>
  if c1 then
  j3 c1
  else
  Gl (fun (c3 : Bool) =>
  j3 c3) (fun j4 =>
  if ((decide (p_x.Kind = 1)) && (!decide (p_x.Club = An))) then Option.bind (Gd p_x.Club) (fun r4 =>
  j4 (((decide (p_x.Kind = 1)) && (!decide (p_x.Club = An))) && (!r4))) else j4 (((decide (p_x.Kind = 1)) && (!decide (p_x.Club = An))) && true)))) (fun j1 =>
  if (!(decide (p_x.Kind = 4))) then Option.bind (Gd p_x.Who) (fun r2 =>
  Gl (fun (c2 : Bool) =>
  j1 ((!(decide (p_x.Kind = 4))) && c2)) (fun j2 =>
  if (!r2) then j2 ((!r2) || true) else Option.bind (Gd p_x.Race) (fun r3 =>
  j2 ((!r2) || (!r3))))) else j1 ((!(decide (p_x.Kind = 4))) && true)))
def Si (p_x : Int) : Bool :=
  !decide (p_x = p_x)
def Jw (p_x : Int) (p_y : Int) : Int :=
  if (Si p_x) then
  if (Si p_y) then
  0
  else
  (-1)
  else
  if (Si p_y) then
  1
  else
  if decide (p_x < p_y) then
  (-1)
  else
  if decide (p_y < p_x) then
  1
  else
  0
def Mc (j1 : Int) : List Int → Nat → Int
  | [],_=>j1
  | y1 :: ys1,i1=>if !decide (y1 = 0) then
  y1
  else
  Mc j1 ys1 (i1 + 1)
def Sz (p_vals : List Int) : Int :=
  Gl (0) (fun j1 =>
  Mc j1 p_vals 0)
def Mw (p_a : Dt) (p_b : Dt) : Int :=
  (Sz [(Jw p_a.At p_b.At),(Hi p_a.Site p_b.Site),(Jw p_a.No p_b.No)])
def Ek (p_x : Dt) : Eg :=
  (Eg.mk p_x.Site p_x.No)
def Hy (p_l : List Dt) (j1 : (List (Eg × Bool)) → Bool → Option Int) : List Dt → Nat → (List (Eg × Bool)) → Bool → Option Int
  | [],_,x1,x2=>j1 x1 x2
  | y1 :: ys1,i1,x1,x2=>Option.bind (Nd y1) (fun r1 =>
  if !decide (r1 = 0) then
  some r1
  else
  Gl (fun (x3 : Bool) =>
  if x3 then
  some 7
  else
  Hy p_l j1 ys1 (i1 + 1) (Gj x1 (Ek y1) true) (x2 || (Ee x1 (Ek y1) false))) (fun j2 =>
  if decide (0 < (i1 : Int)) then
  Chk (inB (W ((i1 : Int) - 1)) p_l.length) (
  j2 (decide (0 ≤ (Mw (nth p_l (W ((i1 : Int) - 1))) y1))))
  else
  j2 false))
def Pg (p_l : List Dt) : Option Int :=
  if decide (2000 < (p_l.length : Int)) then
  some 2
  else
  Gl (fun (x1 : List (Eg × Bool)) (x2 : Bool) =>
  if x2 then
  some 6
  else
  some 0) (fun j1 =>
  Hy p_l j1 p_l 0 ([] : List (Eg × Bool)) false)
def Jf (j1 : (List Int) → Option (List Int)) : Nat → (List Int) → Int → Int → Option (List Int)
  | 0,_,_,_=>none
  | m1 + 1,x1,x2,x3=>if decide (x2 < x3) then
  Chk (inB x3 x1.length) (
  Chk (inB x2 x1.length) (
  Chk (inB x2 x1.length) (
  Chk (inB x3 (x1.set x2.toNat (nth x1 x3)).length) (
  Jf j1 m1 ((x1.set x2.toNat (nth x1 x3)).set x3.toNat (nth x1 x2)) (W (x2 + 1)) (W (x3 - 1))))))
  else
  j1 x1
def Om (p_s : List Int) : Option (List Int) :=
  Gl (fun (x1 : List Int) =>
  some x1) (fun j1 =>
  Jf j1 (((W ((p_s.length : Int) - 1)) - 0).toNat + 2) p_s 0 (W ((p_s.length : Int) - 1)))
  /-- Which of the deeds count,from the last one on. -/
def Vv (l : List Dt) (at_ : Int) (i : Nat) (m : List (Eg × Bool)) : Bool:=decide (at_ < (nth l (i : Int)).At) || Ee m (Ek (nth l (i : Int))) false
def Km (l : List Dt) (at_ : Int) : List Nat → List (Eg × Bool) → List Int → Option (List Int)
  | [],_,x=>Om x
  | i :: is,m,x=>if Vv l at_ i m then Km l at_ is m x else
    Chk (Rt x.length) (Km l at_ is (if decide ((nth l (i : Int)).Kind = 4) then Gj m (Eg.mk ((nth l (i : Int)).Of) ((nth l (i : Int)).Other)) true else m) (x ++ [(i : Int)]))
def Wd (l : List Dt) (at_ : Int) : Option (List Int):=Km l at_ (Xg l.length) [] []
def Lv (p_l : List Dt) (j1 : (List Dt) → Option (Option Kd)) : List Int → Nat → (List Dt) → Option (Option Kd)
  | [],_,x1=>j1 x1
  | y1 :: ys1,i1,x1=>Chk (inB y1 p_l.length) (
  Chk (Rt x1.length) (
  Lv p_l j1 ys1 (i1 + 1) (x1 ++ [(nth p_l y1)])))
def Ti (p_p : Mp) (p_l : List Dt) (p_at : Int) : Option (Option Kd) :=
  Option.bind (Wd p_l p_at) (fun r1 =>
  Gl (fun (x1 : List Dt) =>
  some (some (Kd.mk p_p x1))) (fun j1 =>
  Lv p_l j1 r1 0 ([] : List Dt)))
def Oq (j1 : Option ((Option Kd) × Int)) : List Int → Nat → Option ((Option Kd) × Int)
  | [],_=>j1
  | y1 :: ys1,i1=>if !(Ik y1) then
  some (none,1)
  else
  Oq j1 ys1 (i1 + 1)
def Yr (p_p : Mp) (p_l : List Dt) (p_at : List Int) : Option ((Option Kd) × Int) :=
  Option.bind (Sy p_p) (fun r1 =>
  if !decide (r1 = 0) then
  some (none,r1)
  else
  Option.bind (Pg p_l) (fun r2 =>
  if !decide (r2 = 0) then
  some (none,r2)
  else
  Gl (Chk (inB (W ((p_at.length : Int) - 1)) p_at.length) (
  Option.bind (Ti p_p p_l (nth p_at (W ((p_at.length : Int) - 1)))) (fun r3 =>
  some (r3,0)))) (fun j1 =>
  Oq j1 p_at 0)))
def We (p_r : Eh) (p_a1 : ByteArray) : Bool :=
  decide (p_r.Key = p_a1)
def Gg (p_f_0 : ByteArray) (j1 : Int) : List Eh → Nat → Int
  | [],_=>j1
  | y1 :: ys1,i1=>if (We y1 p_f_0) then
  (i1 : Int)
  else
  Gg p_f_0 j1 ys1 (i1 + 1)
def Gh (p_s : List Eh) (p_f_0 : ByteArray) : Int :=
  Gl ((-1)) (fun j1 =>
  Gg p_f_0 j1 p_s 0)
def CT (p_x : Int) : Option Int :=
  Gl (fun (x1 : Int) (x2 : Int) =>
  Gl (fun (x3 : Int) (x4 : Int) =>
  Chk (inB (IntKind.wrap .u8 x3) Pl.size) (
  some (W (x4 + (W (Xx Pl (IntKind.wrap .u8 x3))))))) (fun j2 =>
  if decide (256 ≤ x1) then
  j2 (Gm .u32 x1 8) (W (x2 + 8))
  else
  j2 x1 x2)) (fun j1 =>
  if decide (65536 ≤ p_x) then
  j1 (Gm .u32 p_x 16) 16
  else
  j1 p_x 0)
def Zk (p_x : Int) : Option Int :=
  Gl (fun (x1 : Int) (x2 : Int) =>
  Gl (fun (x3 : Int) (x4 : Int) =>
  Gl (fun (x5 : Int) (x6 : Int) =>
  Chk (inB (IntKind.wrap .u8 x5) Pl.size) (
  some (W (x6 + (W (Xx Pl (IntKind.wrap .u8 x5))))))) (fun j3 =>
  if decide (256 ≤ x3) then
  j3 (Gm .u64 x3 8) (W (x4 + 8))
  else
  j3 x3 x4)) (fun j2 =>
  if decide (65536 ≤ x1) then
  j2 (Gm .u64 x1 16) (W (x2 + 16))
  else
  j2 x1 x2)) (fun j1 =>
  if decide (4294967296 ≤ p_x) then
  j1 (Gm .u64 p_x 32) 32
  else
  j1 p_x 0)
def DT (p_x : Int) : Option Int :=
  if false then
  Option.bind (CT (IntKind.wrap .u32 p_x)) (fun r1 =>
  some r1)
  else
  Option.bind (Zk p_x) (fun r2 =>
  some r2)
def Ns (p_a : Dt) (p_b : Dt) : Int :=
  (Hi p_a.Who p_b.Who)
def Er (p_a : Int) (j2 : (List Dt) → Option (List Dt)) : Nat → (List Dt) → Int → Option (List Dt)
  | 0,_,_=>none
  | m2 + 1,x3,x4=>Gl (fun (x5 : Bool) =>
  if x5 then
  Chk (inB (W (x4 - 1)) x3.length) (
  Chk (inB x4 x3.length) (
  Chk (inB x4 x3.length) (
  Chk (inB (W (x4 - 1)) (x3.set x4.toNat (nth x3 (W (x4 - 1)))).length) (
  Er p_a j2 m2 ((x3.set x4.toNat (nth x3 (W (x4 - 1)))).set ((W (x4 - 1)).toNat) (nth x3 x4)) (W (x4 - 1))))))
  else
  j2 x3) (fun j3 =>
  if decide (p_a < x4) then
  Chk (inB x4 x3.length) (
  Chk (inB (W (x4 - 1)) x3.length) (
  j3 (decide ((Ns (nth x3 x4) (nth x3 (W (x4 - 1)))) < 0))))
  else
  j3 false)
def Fa (p_b : Int) (p_a : Int) (j1 : (List Dt) → Option (List Dt)) : Nat → (List Dt) → Int → Option (List Dt)
  | 0,_,_=>none
  | m1 + 1,x1,x2=>if decide (x2 < p_b) then
  Gl (fun (x3 : List Dt) =>
  Fa p_b p_a j1 m1 x3 (W (x2 + 1))) (fun j2 =>
  Er p_a j2 ((x2 - p_a).toNat + 2) x1 x2)
  else
  j1 x1
def Hs (p_data : List Dt) (p_a : Int) (p_b : Int) : Option (List Dt) :=
  Gl (fun (x1 : List Dt) =>
  some x1) (fun j1 =>
  Fa p_b p_a j1 ((p_b - (W (p_a + 1))).toNat + 2) p_data (W (p_a + 1)))
def Gi (p_data : List Dt) : Nat → Int → Int → Int → Bool → Option (List Dt)
  | 0,_,_,_,_=>none
  | _ + 1,x1,x2,x3,x4=>if decide ((W (x2 - x1)) ≤ 12) then
  Option.bind (Hs p_data x1 x2) (fun r1 =>
  some r1)
  else
  if decide (x3 = 0) then
  none
  else
  if !x4 then
  none
  else
  none
def Jm (p_data : List Dt) (p_a : Int) (p_b : Int) (p_limit : Int) : Option (List Dt) :=
  Gi p_data 4611686018427387904 p_a p_b p_limit true
def Jd (p_x : List Dt) : Option (List Dt) :=
  Option.bind (DT (IntKind.wrap .u64 (p_x.length : Int))) (fun r1 =>
  Option.bind (Jm p_x 0 (p_x.length : Int) r1) (fun r2 =>
  some r2))
def Le (p_race : ByteArray) (j1 : (List (ByteArray × Dt)) → Option (List Dt)) : List Dt → Nat → (List (ByteArray × Dt)) → Option (List Dt)
  | [],_,x1=>j1 x1
  | y1 :: ys1,i1,x1=>Gl (fun (x2 : List (ByteArray × Dt)) =>
  Le p_race j1 ys1 (i1 + 1) x2) (fun j2 =>
  if !decide (y1.Race = p_race) then
  j2 x1
  else
  Gl (fun (x3 : List (ByteArray × Dt)) =>
  j2 x3) (fun j3 =>
  Gl (fun (x4 : List (ByteArray × Dt)) =>
  j3 x4) (fun j4 =>
  if decide (y1.Kind = 1) then
  j4 (Gj x1 y1.Who y1)
  else
  Gl (fun (x5 : List (ByteArray × Dt)) =>
  j4 x5) (fun j5 =>
  if decide (y1.Kind = 2) then
  j5 (AC x1 y1.Who)
  else
  j5 x1))))
def Md (j6 : (List Dt) → Option (List Dt)) : List (ByteArray × Dt) → (List Dt) → Option (List Dt)
  | [],x6=>j6 x6
  | y2 :: ys2,x6=>Option.bind (α:=(List Dt)) (
  Chk (Rt x6.length) (
  some (x6 ++ [y2.2]))) (fun s=>Md j6 ys2 s)
def Qy (p_s_p : Mp) (p_s_deeds : List Dt) (p_race : ByteArray) : Option (List Dt) :=
  Gl (fun (x1 : List (ByteArray × Dt)) =>
  Gl (fun (x6 : List Dt) =>
  Option.bind (Jd x6) (fun r1 =>
  some r1)) (fun j6 =>
  SL x1 (fun p=>Md j6 p ([] : List Dt)))) (fun j1 =>
  Le p_race j1 p_s_deeds 0 ([] : List (ByteArray × Dt)))
def Xl (p_s_p : Mp) (p_s_deeds : List Dt) (p_key : ByteArray) : Option (Eh × Int) :=
  if decide ((Gh p_s_p.Races p_key) < 0) then
  some ((Eh.mk An 0 0 0 0 0 0 0),8)
  else
  Option.bind (Qy p_s_p p_s_deeds p_key) (fun r1 =>
  if decide (300 < (r1.length : Int)) then
  some ((Eh.mk An 0 0 0 0 0 0 0),2)
  else
  Chk (inB (Gh p_s_p.Races p_key) p_s_p.Races.length) (
  some ((nth p_s_p.Races (Gh p_s_p.Races p_key)),0)))
def Ot (p_s_p : Mp) (p_s_deeds : List Dt) (j1 : Option Int) : List Eh → Nat → Option Int
  | [],_=>j1
  | y1 :: ys1,i1=>Option.bind (Xl p_s_p p_s_deeds y1.Key) (fun r1 =>
  if !decide (r1.2 = 0) then
  some r1.2
  else
  Ot p_s_p p_s_deeds j1 ys1 (i1 + 1))
def Xe (p_s_p : Mp) (p_s_deeds : List Dt) : Option Int :=
  Gl (some 0) (fun j1 =>
  Ot p_s_p p_s_deeds j1 p_s_p.Races 0)
def Nz (p_race : ByteArray) (j1 : (List (ByteArray × Dt)) → (List (ByteArray × Dt))) : List Dt → Nat → (List (ByteArray × Dt)) → (List (ByteArray × Dt))
  | [],_,x1=>j1 x1
  | y1 :: ys1,i1,x1=>Gl (fun (x2 : List (ByteArray × Dt)) =>
  Nz p_race j1 ys1 (i1 + 1) x2) (fun j2 =>
  Gl (fun (x3 : List (ByteArray × Dt)) =>
  j2 x3) (fun j3 =>
  if ((decide (y1.Race = p_race)) && (decide (y1.Kind = 3))) then
  j3 (Gj x1 y1.Who y1)
  else
  j3 x1))
def Hq (p_s_p : Mp) (p_s_deeds : List Dt) (p_race : ByteArray) : (List (ByteArray × Dt)) :=
  Gl (fun (x1 : List (ByteArray × Dt)) =>
  x1) (fun j1 =>
  Nz p_race j1 p_s_deeds 0 ([] : List (ByteArray × Dt)))
def Kr (j1 : (List (ByteArray × Bool)) → Bool → Option Int) : List Jk → Nat → (List (ByteArray × Bool)) → Bool → Option Int
  | [],_,x1,x2=>j1 x1 x2
  | y1 :: ys1,i1,x1,x2=>Option.bind (Gd y1.Who) (fun r1 =>
  if !r1 then
  some 5
  else
  if !(Dx y1.Time 0 360000) then
  some 1
  else
  Kr j1 ys1 (i1 + 1) (Gj x1 y1.Who true) (x2 || (Ee x1 y1.Who false)))
def Se (p_l : List Jk) : Option Int :=
  if decide (300 < (p_l.length : Int)) then
  some 2
  else
  Gl (fun (x1 : List (ByteArray × Bool)) (x2 : Bool) =>
  if x2 then
  some 6
  else
  some 0) (fun j1 =>
  Kr j1 p_l 0 ([] : List (ByteArray × Bool)) false)
def Iu (p_v : List Ib) (j1 : Option Int) : List Ib → Nat → Option Int
  | [],_=>j1
  | y1 :: ys1,i1=>Option.bind (Gd y1.Who) (fun r2 =>
  if !r2 then
  some 5
  else
  if !(Dx y1.Fault 0 8) then
  some 4
  else
  Gl (fun (c1 : Bool) =>
  if c1 then
  some 7
  else
  Iu p_v j1 ys1 (i1 + 1)) (fun j2 =>
  if (decide (0 < (i1 : Int))) then Chk (inB (W ((i1 : Int) - 1)) p_v.length) (
  j2 ((decide (0 < (i1 : Int))) && (DL y1.Who ((nth p_v (W ((i1 : Int) - 1))).Who) || decide (y1.Who = ((nth p_v (W ((i1 : Int) - 1))).Who))))) else j2 ((decide (0 < (i1 : Int))) && true)))
def Pk (p_v : List Ib) : Option Int :=
  if decide (300 < (p_v.length : Int)) then
  some 2
  else
  Gl (some 0) (fun j1 =>
  Iu p_v j1 p_v 0)
def Ub (p_a : Dw) (p_b : Dw) (p_a2 : Int) : Option Int :=
  Chk (!decide (p_a2 = 0)) (
  Chk (!decide (p_a2 = 0)) (
  some (W ((W (Int.tdiv p_a.Time p_a2)) - (W (Int.tdiv p_b.Time p_a2))))))
def Es (p_a : Int) (p_cmp_0 : Int) (j2 : (List Dw) → Option (List Dw)) : Nat → (List Dw) → Int → Option (List Dw)
  | 0,_,_=>none
  | m2 + 1,x3,x4=>Gl (fun (x5 : Bool) =>
  if x5 then
  Chk (inB (W (x4 - 1)) x3.length) (
  Chk (inB x4 x3.length) (
  Chk (inB x4 x3.length) (
  Chk (inB (W (x4 - 1)) (x3.set x4.toNat (nth x3 (W (x4 - 1)))).length) (
  Es p_a p_cmp_0 j2 m2 ((x3.set x4.toNat (nth x3 (W (x4 - 1)))).set ((W (x4 - 1)).toNat) (nth x3 x4)) (W (x4 - 1))))))
  else
  j2 x3) (fun j3 =>
  if decide (p_a < x4) then
  Chk (inB x4 x3.length) (
  Chk (inB (W (x4 - 1)) x3.length) (
  Option.bind (Ub (nth x3 x4) (nth x3 (W (x4 - 1))) p_cmp_0) (fun r1 =>
  j3 (decide (r1 < 0)))))
  else
  j3 false)
def Fi (p_b : Int) (p_a : Int) (p_cmp_0 : Int) (j1 : (List Dw) → Option (List Dw)) : Nat → (List Dw) → Int → Option (List Dw)
  | 0,_,_=>none
  | m1 + 1,x1,x2=>if decide (x2 < p_b) then
  Gl (fun (x3 : List Dw) =>
  Fi p_b p_a p_cmp_0 j1 m1 x3 (W (x2 + 1))) (fun j2 =>
  Es p_a p_cmp_0 j2 ((x2 - p_a).toNat + 2) x1 x2)
  else
  j1 x1
def Hf (p_data : List Dw) (p_a : Int) (p_b : Int) (p_cmp_0 : Int) : Option (List Dw) :=
  Gl (fun (x1 : List Dw) =>
  some x1) (fun j1 =>
  Fi p_b p_a p_cmp_0 j1 ((p_b - (W (p_a + 1))).toNat + 2) p_data (W (p_a + 1)))
def Gb (p_n : Int) (p_cmp_0 : Int) (j1 : (List Dw) → Int → Option (List Dw)) : Nat → (List Dw) → Int → Int → Option (List Dw)
  | 0,_,_,_=>none
  | m1 + 1,x1,x2,x3=>if decide (x3 ≤ p_n) then
  Option.bind (Hf x1 x2 x3 p_cmp_0) (fun r1 =>
  Gb p_n p_cmp_0 j1 m1 r1 x3 (W (x3 + 20)))
  else
  j1 x1 x2
def Hc (p_n : Int) (j3 : Int → Option (List Dw)) : Nat → Int → Int → Option (List Dw)
  | 0,_,_=>none
  | _ + 1,x5,x6=>if decide (x6 ≤ p_n) then
  none
  else
  j3 x5
def Gc (p_n : Int) (j2 : Option (List Dw)) : Nat → Int → Option (List Dw)
  | 0,_=>none
  | m2 + 1,x4=>if decide (x4 < p_n) then
  Gl (fun (x5 : Int) =>
  if decide ((W (x5 + x4)) < p_n) then
  none
  else
  Gc p_n j2 m2 (W (x4 * 2))) (fun j3 =>
  Hc p_n j3 ((p_n - (W (2 * x4))).toNat + 2) 0 (W (2 * x4)))
  else
  j2
def Jx (p_data : List Dw) (p_n : Int) (p_cmp_0 : Int) : Option (List Dw) :=
  Gl (fun (x1 : List Dw) (x2 : Int) =>
  Option.bind (Hf x1 x2 p_n p_cmp_0) (fun r2 =>
  Gl (some r2) (fun j2 =>
  Gc p_n j2 ((p_n - 20).toNat + 2) 20))) (fun j1 =>
  Gb p_n p_cmp_0 j1 ((p_n - 20).toNat + 2) p_data 0 20)
def Il (p_x : List Dw) (p_cmp_0 : Int) : Option (List Dw) :=
  Option.bind (Jx p_x (p_x.length : Int) p_cmp_0) (fun r1 =>
  some r1)
def Oa (j1 : (List (ByteArray × Int)) → Option ((List Dw) × Int)) : List Ib → Nat → (List (ByteArray × Int)) → Option ((List Dw) × Int)
  | [],_,x1=>j1 x1
  | y1 :: ys1,i1,x1=>Oa j1 ys1 (i1 + 1) (Gj x1 y1.Who y1.Fault)
def Nf (x1 : List (ByteArray × Int)) (j2 : (List Dw) → (List Dw) → Option ((List Dw) × Int)) : List Jk → Nat → (List Dw) → (List Dw) → Option ((List Dw) × Int)
  | [],_,x2,x3=>j2 x2 x3
  | y2 :: ys2,i2,x2,x3=>Gl (fun (x4 : List Dw) (x5 : List Dw) =>
  Nf x1 j2 ys2 (i2 + 1) x4 x5) (fun j3 =>
  Gl (fun (x6 : List Dw) (x7 : List Dw) =>
  j3 x6 x7) (fun j4 =>
  if ((decide ((Ee x1 y2.Who 0) = 0)) && (decide (0 < y2.Time))) then
  Chk (Rt x3.length) (
  j4 x2 (x3 ++ [(Dw.mk y2.Who 0 y2.Time (Ee x1 y2.Who 0))]))
  else
  Chk (Rt x2.length) (
  j4 (x2 ++ [(Dw.mk y2.Who 0 y2.Time (Ee x1 y2.Who 0))]) x3)))
def Ng (p_by : Int) (j5 : (List Dw) → Option ((List Dw) × Int)) : List Dw → Nat → (List Dw) → Option ((List Dw) × Int)
  | [],_,x8=>j5 x8
  | _ :: ys3,i3,x8=>Gl (fun (x9 : List Dw) =>
  Ng p_by j5 ys3 (i3 + 1) x9) (fun j6 =>
  Gl (fun (c1 : Bool) =>
  Gl (fun (x10 : List Dw) =>
  j6 x10) (fun j8 =>
  if c1 then
  Chk (inB (W ((i3 : Int) - 1)) x8.length) (
  Chk (inB (i3 : Int) x8.length) (
  j8 (x8.set ((i3 : Int).toNat) (Dw.mk ((nth x8 (i3 : Int)).Who) ((nth x8 (W ((i3 : Int) - 1))).Rank) ((nth x8 (i3 : Int)).Time) ((nth x8 (i3 : Int)).Fault)))))
  else
  Chk (inB (i3 : Int) x8.length) (
  j8 (x8.set ((i3 : Int).toNat) (Dw.mk ((nth x8 (i3 : Int)).Who) (W ((i3 : Int) + 1)) ((nth x8 (i3 : Int)).Time) ((nth x8 (i3 : Int)).Fault)))))) (fun j7 =>
  if (decide (0 < (i3 : Int))) then Chk (inB (i3 : Int) x8.length) (
  Chk (!decide (p_by = 0)) (
  Chk (inB (W ((i3 : Int) - 1)) x8.length) (
  Chk (!decide (p_by = 0)) (
  j7 ((decide (0 < (i3 : Int))) && (decide ((W (Int.tdiv ((nth x8 (i3 : Int)).Time) p_by)) = (W (Int.tdiv ((nth x8 (W ((i3 : Int) - 1))).Time) p_by))))))))) else j7 ((decide (0 < (i3 : Int))) && true)))
def Zl (p_l : List Jk) (p_v : List Ib) (p_by : Int) : Option ((List Dw) × Int) :=
  Option.bind (Se p_l) (fun r1 =>
  if !decide (r1 = 0) then
  some (([] : List Dw),r1)
  else
  Option.bind (Pk p_v) (fun r2 =>
  if !decide (r2 = 0) then
  some (([] : List Dw),r2)
  else
  Gl (fun (x1 : List (ByteArray × Int)) =>
  Gl (fun (x2 : List Dw) (x3 : List Dw) =>
  Option.bind (Il x3 p_by) (fun r4 =>
  Gl (fun (x8 : List Dw) =>
  Chk (decide (x8.length + x2.length < 1073741824)) (
  some ((x8 ++ x2),0))) (fun j5 =>
  Ng p_by j5 r4 0 r4))) (fun j2 =>
  Nf x1 j2 p_l 0 ([] : List Dw) ([] : List Dw))) (fun j1 =>
  Oa j1 p_v 0 ([] : List (ByteArray × Int)))))
def Vw (p_l : List Jk) (p_v : List Ib) : Option ((List Dw) × Int) :=
  Option.bind (Zl p_l p_v 1) (fun r1 =>
  some (r1.1,r1.2))
def Lw (p_s_p : Mp) (p_s_deeds : List Dt) (p_race : ByteArray) (j1 : (List Ib) → (List Jk) → (List (ByteArray × ByteArray)) → Option ((List Dw) × (List (ByteArray × ByteArray)) × Int)) : List Dt → Nat → (List Ib) → (List Jk) → (List (ByteArray × ByteArray)) → Option ((List Dw) × (List (ByteArray × ByteArray)) × Int)
  | [],_,x1,x2,x3=>j1 x1 x2 x3
  | y1 :: ys1,i1,x1,x2,x3=>Gl (fun (x4 : List Ib) (x5 : List Jk) (x6 : List (ByteArray × ByteArray)) =>
  Lw p_s_p p_s_deeds p_race j1 ys1 (i1 + 1) x4 x5 x6) (fun j2 =>
  if !((Ur (Hq p_s_p p_s_deeds p_race) y1.Who).isSome) then
  j2 x1 x2 x3
  else
  Chk (Rt x2.length) (
  Gl (fun (x7 : List Ib) =>
  j2 x7 (x2 ++ [(Jk.mk y1.Who ((Ee (Hq p_s_p p_s_deeds p_race) y1.Who (Dt.mk An 0 0 0 An An An 0 0 An 0)).Time))]) (Gj x3 y1.Who y1.Club)) (fun j3 =>
  if decide (0 < ((Ee (Hq p_s_p p_s_deeds p_race) y1.Who (Dt.mk An 0 0 0 An An An 0 0 An 0)).Fault)) then
  Chk (Rt x1.length) (
  j3 (x1 ++ [(Ib.mk y1.Who ((Ee (Hq p_s_p p_s_deeds p_race) y1.Who (Dt.mk An 0 0 0 An An An 0 0 An 0)).Fault) ([] : List ByteArray))]))
  else
  j3 x1)))
def Vd (p_s_p : Mp) (p_s_deeds : List Dt) (p_race : ByteArray) : Option ((List Dw) × (List (ByteArray × ByteArray)) × Int) :=
  Option.bind (Qy p_s_p p_s_deeds p_race) (fun r1 =>
  Gl (fun (x1 : List Ib) (x2 : List Jk) (x3 : List (ByteArray × ByteArray)) =>
  Option.bind (Vw x2 x1) (fun r2 =>
  some (r2.1,x3,r2.2))) (fun j1 =>
  Lw p_s_p p_s_deeds p_race j1 r1 0 ([] : List Ib) ([] : List Jk) ([] : List (ByteArray × ByteArray))))
def Mx (p_a : Du) (p_b : Du) : Int :=
  if !decide ((decide (p_a.Rank = 0)) = (decide (p_b.Rank = 0))) then
  W (p_b.Rank - p_a.Rank)
  else
  if !decide (p_a.Rank = p_b.Rank) then
  W (p_a.Rank - p_b.Rank)
  else
  (Hi p_a.Who p_b.Who)
def Em (p_a : Int) (j2 : (List Du) → Option (List Du)) : Nat → (List Du) → Int → Option (List Du)
  | 0,_,_=>none
  | m2 + 1,x3,x4=>Gl (fun (x5 : Bool) =>
  if x5 then
  Chk (inB (W (x4 - 1)) x3.length) (
  Chk (inB x4 x3.length) (
  Chk (inB x4 x3.length) (
  Chk (inB (W (x4 - 1)) (x3.set x4.toNat (nth x3 (W (x4 - 1)))).length) (
  Em p_a j2 m2 ((x3.set x4.toNat (nth x3 (W (x4 - 1)))).set ((W (x4 - 1)).toNat) (nth x3 x4)) (W (x4 - 1))))))
  else
  j2 x3) (fun j3 =>
  if decide (p_a < x4) then
  Chk (inB x4 x3.length) (
  Chk (inB (W (x4 - 1)) x3.length) (
  j3 (decide ((Mx (nth x3 x4) (nth x3 (W (x4 - 1)))) < 0))))
  else
  j3 false)
def Ez (p_b : Int) (p_a : Int) (j1 : (List Du) → Option (List Du)) : Nat → (List Du) → Int → Option (List Du)
  | 0,_,_=>none
  | m1 + 1,x1,x2=>if decide (x2 < p_b) then
  Gl (fun (x3 : List Du) =>
  Ez p_b p_a j1 m1 x3 (W (x2 + 1))) (fun j2 =>
  Em p_a j2 ((x2 - p_a).toNat + 2) x1 x2)
  else
  j1 x1
def Ha (p_data : List Du) (p_a : Int) (p_b : Int) : Option (List Du) :=
  Gl (fun (x1 : List Du) =>
  some x1) (fun j1 =>
  Ez p_b p_a j1 ((p_b - (W (p_a + 1))).toNat + 2) p_data (W (p_a + 1)))
def Fv (p_n : Int) (j1 : (List Du) → Int → Option (List Du)) : Nat → (List Du) → Int → Int → Option (List Du)
  | 0,_,_,_=>none
  | m1 + 1,x1,x2,x3=>if decide (x3 ≤ p_n) then
  Option.bind (Ha x1 x2 x3) (fun r1 =>
  Fv p_n j1 m1 r1 x3 (W (x3 + 20)))
  else
  j1 x1 x2
def Gr (p_n : Int) (j3 : Int → Option (List Du)) : Nat → Int → Int → Option (List Du)
  | 0,_,_=>none
  | _ + 1,x5,x6=>if decide (x6 ≤ p_n) then
  none
  else
  j3 x5
def Fw (p_n : Int) (j2 : Option (List Du)) : Nat → Int → Option (List Du)
  | 0,_=>none
  | m2 + 1,x4=>if decide (x4 < p_n) then
  Gl (fun (x5 : Int) =>
  if decide ((W (x5 + x4)) < p_n) then
  none
  else
  Fw p_n j2 m2 (W (x4 * 2))) (fun j3 =>
  Gr p_n j3 ((p_n - (W (2 * x4))).toNat + 2) 0 (W (2 * x4)))
  else
  j2
def Je (p_data : List Du) (p_n : Int) : Option (List Du) :=
  Gl (fun (x1 : List Du) (x2 : Int) =>
  Option.bind (Ha x1 x2 p_n) (fun r2 =>
  Gl (some r2) (fun j2 =>
  Fw p_n j2 ((p_n - 20).toNat + 2) 20))) (fun j1 =>
  Fv p_n j1 ((p_n - 20).toNat + 2) p_data 0 20)
def Gy (p_x : List Du) : Option (List Du) :=
  Option.bind (Je p_x (p_x.length : Int)) (fun r1 =>
  some r1)
def Kw (p_a : Int) (p_b : Int) : Int :=
  Gl (fun (x1 : Int) =>
  Gl (fun (x2 : Int) =>
  W (x1 - x2)) (fun j2 =>
  if decide (p_b = 0) then
  j2 301
  else
  j2 p_b)) (fun j1 =>
  if decide (p_a = 0) then
  j1 301
  else
  j1 p_a)
def Ro (p_a : Du) (p_b : Du) : Int :=
  (Sz [(Hi p_a.Race p_b.Race),(Kw p_a.Rank p_b.Rank),(Hi p_a.Who p_b.Who)])
def Mt (p_l : List Du) (x2 : Int) (j2 : Int → Option (List (List Du))) : Nat → Int → Option (List (List Du))
  | 0,_=>none
  | m2 + 1,x3=>Gl (fun (c1 : Bool) =>
  if c1 then
  Mt p_l x2 j2 m2 (W (x3 + 1))
  else
  j2 x3) (fun j3 =>
  if (decide (x3 < (p_l.length : Int))) then Chk (inB x3 p_l.length) (
  Chk (inB x2 p_l.length) (
  j3 ((decide (x3 < (p_l.length : Int))) && (decide (((nth p_l x3).Race) = ((nth p_l x2).Race)))))) else j3 ((decide (x3 < (p_l.length : Int))) && true))
def Kx (p_l : List Du) (j1 : (List (List Du)) → Option (List (List Du))) : Nat → (List (List Du)) → Int → Option (List (List Du))
  | 0,_,_=>none
  | m1 + 1,x1,x2=>if decide (x2 < (p_l.length : Int)) then
  Gl (fun (x3 : Int) =>
  Chk (CC x2 x3 p_l.length) (
  Chk (Rt x1.length) (
  Kx p_l j1 m1 (x1 ++ [cut p_l x2 x3]) x3))) (fun j2 =>
  Mt p_l x2 j2 (((p_l.length : Int) - (W (x2 + 1))).toNat + 2) (W (x2 + 1)))
  else
  j1 x1
def Rx (p_l : List Du) : Option (List (List Du)) :=
  Gl (fun (x1 : List (List Du)) =>
  some x1) (fun j1 =>
  Kx p_l j1 (((p_l.length : Int) - 0).toNat + 2) ([] : List (List Du)) 0)
def Ry (p_x : Du) (p_a1 : List Du) : Option Bool :=
  Chk (inB 0 p_a1.length) (
  some (!decide (p_x.Relay = ((nth p_a1 0).Relay))))
def Fj (p_f_0 : List Du) (j1 : Option Int) : List Du → Nat → Option Int
  | [],_=>j1
  | y1 :: ys1,i1=>Option.bind (Ry y1 p_f_0) (fun r1 =>
  if r1 then
  some (i1 : Int)
  else
  Fj p_f_0 j1 ys1 (i1 + 1))
def Jo (p_s : List Du) (p_f_0 : List Du) : Option Int :=
  Gl (some (-1)) (fun j1 =>
  Fj p_f_0 j1 p_s 0)
def Iz (p_s : List Du) (p_f_0 : List Du) : Option Bool :=
  Option.bind (Jo p_s p_f_0) (fun r1 =>
  some (decide (0 ≤ r1)))
def Ks (j1 : (List (Ff × Bool)) → Option Int) : List Du → Nat → (List (Ff × Bool)) → Option Int
  | [],_,x1=>j1 x1
  | y1 :: ys1,i1,x1=>if Ee x1 (Ff.mk y1.Race y1.Who) false then
  some 6
  else
  Ks j1 ys1 (i1 + 1) (Gj x1 (Ff.mk y1.Race y1.Who) true)
def Ka (j2 : Option Int) : List (List Du) → Nat → Option Int
  | [],_=>j2
  | y2 :: ys2,i2=>Option.bind (Iz y2 y2) (fun r3 =>
  if r3 then
  some 3
  else
  Ka j2 ys2 (i2 + 1))
def Kt (y3 : (List Du)) (j4 : Option Int) : List Du → Nat → Option Int
  | [],_=>j4
  | y4 :: ys4,i4=>Gl (fun (c1 : Bool) =>
  if c1 then
  some 16
  else
  Kt y3 j4 ys4 (i4 + 1)) (fun j5 =>
  if ((decide (0 < y4.Rank)) && (!decide (y4.Rank = (W ((i4 : Int) + 1))))) then Gl (fun (c2 : Bool) =>
  j5 (((decide (0 < y4.Rank)) && (!decide (y4.Rank = (W ((i4 : Int) + 1))))) && c2)) (fun j6 =>
  if (decide ((i4 : Int) = 0)) then j6 ((decide ((i4 : Int) = 0)) || true) else Chk (inB (W ((i4 : Int) - 1)) y3.length) (
  j6 ((decide ((i4 : Int) = 0)) || (!decide (y4.Rank = ((nth y3 (W ((i4 : Int) - 1))).Rank)))))) else j5 (((decide (0 < y4.Rank)) && (!decide (y4.Rank = (W ((i4 : Int) + 1))))) && true))
def Jj (j3 : Option Int) : List (List Du) → Nat → Option Int
  | [],_=>j3
  | y3 :: ys3,i3=>Gl (Jj j3 ys3 (i3 + 1)) (fun j4 =>
  Kt y3 j4 y3 0)
def Lt (y5 : (List Du)) (j8 : Option Int) : Nat → Int → Option Int
  | 0,_=>none
  | m1 + 1,x2=>if decide (x2 < (y5.length : Int)) then
  Chk (inB x2 y5.length) (
  Gl (fun (c3 : Bool) =>
  if c3 then
  some 12
  else
  Lt y5 j8 m1 (W (x2 + 1))) (fun j9 =>
  if (decide (0 < ((nth y5 x2).Rank))) then Chk (inB x2 y5.length) (
  Chk (inB (W (x2 - 10)) y5.length) (
  j9 ((decide (0 < ((nth y5 x2).Rank))) && (decide (((nth y5 x2).Rank) = ((nth y5 (W (x2 - 10))).Rank)))))) else j9 ((decide (0 < ((nth y5 x2).Rank))) && true)))
  else
  j8
def Kb (j7 : Option Int) : List (List Du) → Nat → Option Int
  | [],_=>j7
  | y5 :: ys5,i5=>Gl (Kb j7 ys5 (i5 + 1)) (fun j8 =>
  Lt y5 j8 (((y5.length : Int) - 10).toNat + 2) 10)
def Ql (p_l : List Du) : Option Int :=
  Gl (fun (x1 : List (Ff × Bool)) =>
  Option.bind (Rx p_l) (fun r1 =>
  Gl (Gl (Gl (some 0) (fun j7 =>
  Kb j7 r1 0)) (fun j3 =>
  Jj j3 r1 0)) (fun j2 =>
  Ka j2 r1 0))) (fun j1 =>
  Ks j1 p_l 0 ([] : List (Ff × Bool)))
def Jg (p_l : List Du) (j1 : Option Int) : List Du → Nat → Option Int
  | [],_=>j1
  | y1 :: ys1,i1=>Option.bind (Gd y1.Race) (fun r1 =>
  Gl (fun (c1 : Bool) =>
  Gl (fun (c2 : Bool) =>
  if c2 then
  some 5
  else
  if !(Dx y1.Rank 0 300) then
  some 1
  else
  Gl (fun (x1 : Bool) =>
  if x1 then
  some 7
  else
  Jg p_l j1 ys1 (i1 + 1)) (fun j5 =>
  if decide (0 < (i1 : Int)) then
  Chk (inB (W ((i1 : Int) - 1)) p_l.length) (
  j5 (decide (0 ≤ (Ro (nth p_l (W ((i1 : Int) - 1))) y1))))
  else
  j5 false)) (fun j3 =>
  if c1 then j3 (c1 || true) else Gl (fun (c3 : Bool) =>
  j3 (c1 || c3)) (fun j4 =>
  if (!decide (y1.Club = An)) then Option.bind (Gd y1.Club) (fun r3 =>
  j4 ((!decide (y1.Club = An)) && (!r3))) else j4 ((!decide (y1.Club = An)) && true)))) (fun j2 =>
  if (!r1) then j2 ((!r1) || true) else Option.bind (Gd y1.Who) (fun r2 =>
  j2 ((!r1) || (!r2)))))
def Py (p_l : List Du) : Option Int :=
  if decide (2000 < (p_l.length : Int)) then
  some 2
  else
  Gl (Option.bind (Ql p_l) (fun r4 =>
  some r4)) (fun j1 =>
  Jg p_l j1 p_l 0)
def Rp (p_t : Lu) (p_l : List Du) : Option Int :=
  Option.bind (Oi p_t) (fun r1 =>
  if !decide (r1 = 0) then
  some r1
  else
  Option.bind (Py p_l) (fun r2 =>
  some r2))
def Ku : Ep :=
  (Ep.mk 0 1)
def Lk (j1 : Int → Option Ep) : Nat → Int → Int → Option Ep
  | 0,_,_=>none
  | m1 + 1,x1,x2=>if decide (0 < x1) then
  Chk (!decide (x1 = 0)) (
  Lk j1 m1 (Int.tmod x2 x1) x1)
  else
  j1 x2
def Pz (p_a : Int) (p_b : Int) : Option Ep :=
  Gl (fun (x2 : Int) =>
  Chk (!decide (x2 = 0)) (
  Chk (!decide (x2 = 0)) (
  some (Ep.mk (W (Int.tdiv p_a x2)) (W (Int.tdiv p_b x2)))))) (fun j1 =>
  Lk j1 ((p_a - 0).toNat + 2) p_a p_b)
def Mq (p_t : Lu) (j1 : (List (ByteArray × Int)) → (List Int) → (List Eb) → Option (List Eb)) : List Du → Nat → (List (ByteArray × Int)) → (List Int) → (List Eb) → Option (List Eb)
  | [],_,x1,x2,x3=>j1 x1 x2 x3
  | y1 :: ys1,i1,x1,x2,x3=>Gl (fun (x4 : List (ByteArray × Int)) (x5 : List Int) (x6 : List Eb) =>
  Mq p_t j1 ys1 (i1 + 1) x4 x5 x6) (fun j2 =>
  if ((decide (y1.Rank = 0)) || (decide (y1.Club = An))) then
  j2 x1 x2 x3
  else
  Gl (fun (x7 : List Int) =>
  Chk (Rt x3.length) (
  j2 (Gj x1 y1.Club (W ((Ee x1 y1.Club 0) + 1))) x7 (x3 ++ [(Eb.mk y1 Ku)]))) (fun j3 =>
  if ((decide (p_t.Most = 0)) || (decide ((Ee (Gj x1 y1.Club (W ((Ee x1 y1.Club 0) + 1))) y1.Club 0) ≤ p_t.Most))) then
  Chk (Rt x2.length) (
  j3 (x2 ++ [(x3.length : Int)]))
  else
  j3 x2))
def Mr (p_t : Lu) (x2 : List Int) (x8 : List Eb) (x9 : Int) (j5 : Int → Int → Option (List Eb)) : Nat → Int → Int → Option (List Eb)
  | 0,_,_=>none
  | m2 + 1,x10,x11=>Gl (fun (c1 : Bool) =>
  if c1 then
  Gl (fun (x12 : Int) =>
  Mr p_t x2 x8 x9 j5 m2 (W (x10 + 1)) x12) (fun j7 =>
  Gl (fun (x13 : Int) =>
  j7 x13) (fun j8 =>
  if decide (x10 < (p_t.Points.length : Int)) then
  Chk (inB x10 p_t.Points.length) (
  j8 (W (x11 + (nth p_t.Points x10))))
  else
  j8 x11))
  else
  j5 x10 x11) (fun j6 =>
  if (decide (x10 < (x2.length : Int))) then Chk (inB x10 x2.length) (
  Chk (inB (nth x2 x10) x8.length) (
  Chk (inB x9 x2.length) (
  Chk (inB (nth x2 x9) x8.length) (
  j6 ((decide (x10 < (x2.length : Int))) && (decide ((((nth x8 (nth x2 x10)).x_).Rank) = (((nth x8 (nth x2 x9)).x_).Rank)))))))) else j6 ((decide (x10 < (x2.length : Int))) && true))
def Lf (x10 : Int) (x9 : Int) (x14 : Int) (x2 : List Int) (j10 : (List Eb) → Option (List Eb)) : Nat → (List Eb) → Int → Option (List Eb)
  | 0,_,_=>none
  | m3 + 1,x15,x16=>if decide (x16 < ((x10.toNat - x9.toNat : Nat) : Int)) then
  Chk (inB x16 (x10.toNat - x9.toNat)) (
  Option.bind (Pz x14 (W (x10 - x9))) (fun r1 =>
  Chk (inB (nth (cut x2 x9 x10) x16) x15.length) (
  Lf x10 x9 x14 x2 j10 m3 (x15.set ((nth (cut x2 x9 x10) x16).toNat) (Eb.mk ((nth x15 (nth (cut x2 x9 x10) x16)).x_) r1)) (W (x16 + 1)))))
  else
  j10 x15
def Kc (x2 : List Int) (p_l : List Du) (p_t : Lu) (j4 : (List Eb) → Option (List Eb)) : Nat → (List Eb) → Int → Option (List Eb)
  | 0,_,_=>none
  | m1 + 1,x8,x9=>if decide (x9 < (x2.length : Int)) then
  Gl (fun (x10 : Int) (x11 : Int) =>
  Chk (inB 0 p_l.length) (
  Gl (fun (x14 : Int) =>
  Chk (CC x9 x10 x2.length) (
  Gl (fun (x15 : List Eb) =>
  Kc x2 p_l p_t j4 m1 x15 x10) (fun j10 =>
  Lf x10 x9 x14 x2 j10 ((((x10.toNat - x9.toNat : Nat) : Int) - 0).toNat + 2) x8 0))) (fun j9 =>
  if (nth p_l 0).Relay then
  j9 (W (x11 * p_t.Relay))
  else
  j9 x11))) (fun j5 =>
  Mr p_t x2 x8 x9 j5 (((x2.length : Int) - x9).toNat + 2) x9 0)
  else
  j4 x8
def Wk (p_t : Lu) (p_l : List Du) : Option (List Eb) :=
  Gl (fun (x1 : List (ByteArray × Int)) (x2 : List Int) (x3 : List Eb) =>
  Gl (fun (x8 : List Eb) =>
  some x8) (fun j4 =>
  Kc x2 p_l p_t j4 (((x2.length : Int) - 0).toNat + 2) x3 0)) (fun j1 =>
  Mq p_t j1 p_l 0 ([] : List (ByteArray × Int)) ([] : List Int) ([] : List Eb))
def Nh (p_t : Lu) (j1 : (List Eb) → Option (List Eb)) : List (List Du) → Nat → (List Eb) → Option (List Eb)
  | [],_,x1=>j1 x1
  | y1 :: ys1,i1,x1=>Option.bind (Wk p_t y1) (fun r3 =>
  Chk (decide (x1.length + r3.length < 1073741824)) (
  Nh p_t j1 ys1 (i1 + 1) (x1 ++ r3)))
def Ta (p_t : Lu) (p_l : List Du) : Option (List Eb) :=
  Option.bind (Rx p_l) (fun r1 =>
  Gl (fun (x1 : List Eb) =>
  some x1) (fun j1 =>
  Nh p_t j1 r1 0 ([] : List Eb)))
def Lx (j1 : (List Kq) → Option ((List Kq) × Int)) : List Eb → Nat → (List Kq) → Option ((List Kq) × Int)
  | [],_,x1=>j1 x1
  | y1 :: ys1,i1,x1=>Chk (decide (y1.x_.Race.size + Pd.size < 1073741824)) (
  Chk (decide ((y1.x_.Race ++ Pd).size + y1.x_.Who.size < 1073741824)) (
  Chk (Rt x1.length) (
  Lx j1 ys1 (i1 + 1) (x1 ++ [(Kq.mk ((y1.x_.Race ++ Pd) ++ y1.x_.Who) y1.points_)]))))
def Tj (p_t : Lu) (p_l : List Du) : Option ((List Kq) × Int) :=
  Option.bind (Rp p_t p_l) (fun r1 =>
  if !decide (r1 = 0) then
  some (([] : List Kq),r1)
  else
  Option.bind (Ta p_t p_l) (fun r2 =>
  Gl (fun (x1 : List Kq) =>
  some (x1,0)) (fun j1 =>
  Lx j1 r2 0 ([] : List Kq))))
def Lg (p_r : Eh) (r1 : (List Dw) × (List (ByteArray × ByteArray)) × Int) (j1 : (List Du) → Option ((List Iw) × Int)) : List Dw → Nat → (List Du) → Option ((List Iw) × Int)
  | [],_,x1=>j1 x1
  | y1 :: ys1,i1,x1=>Chk (Rt x1.length) (
  Lg p_r r1 j1 ys1 (i1 + 1) (x1 ++ [(Du.mk p_r.Key y1.Who (Ee r1.2.1 y1.Who An) y1.Rank (decide (1 < p_r.Legs)))]))
def Me (j2 : (List (ByteArray × Ep)) → Option ((List Iw) × Int)) : List Kq → Nat → (List (ByteArray × Ep)) → Option ((List Iw) × Int)
  | [],_,x2=>j2 x2
  | y2 :: ys2,i2,x2=>Me j2 ys2 (i2 + 1) (Gj x2 y2.Key y2.Points)
def Lh (p_r : Eh) (r1 : (List Dw) × (List (ByteArray × ByteArray)) × Int) (x2 : List (ByteArray × Ep)) (j3 : (List Iw) → Option ((List Iw) × Int)) : List Dw → Nat → (List Iw) → Option ((List Iw) × Int)
  | [],_,x3=>j3 x3
  | y3 :: ys3,i3,x3=>Chk (decide (p_r.Key.size + Pd.size < 1073741824)) (
  Chk (decide ((p_r.Key ++ Pd).size + y3.Who.size < 1073741824)) (
  Gl (fun (x4 : Int) (x5 : Int) =>
  Chk (Rt x3.length) (
  Lh p_r r1 x2 j3 ys3 (i3 + 1) (x3 ++ [(Iw.mk y3.Rank y3.Who (Ee r1.2.1 y3.Who An) y3.Time y3.Fault (Ep.mk x4 x5))]))) (fun j4 =>
  if !((Ur x2 ((p_r.Key ++ Pd) ++ y3.Who)).isSome) then
  j4 0 1
  else
  j4 ((Ee x2 ((p_r.Key ++ Pd) ++ y3.Who) (Ep.mk 0 0)).Num) ((Ee x2 ((p_r.Key ++ Pd) ++ y3.Who) (Ep.mk 0 0)).Den))))
def Ob (p_s_p : Mp) (p_s_deeds : List Dt) (p_r : Eh) : Option ((List Iw) × Int) :=
  Option.bind (Vd p_s_p p_s_deeds p_r.Key) (fun r1 =>
  if !decide (r1.2.2 = 0) then
  some (([] : List Iw),r1.2.2)
  else
  Gl (fun (x1 : List Du) =>
  Option.bind (Gy x1) (fun r2 =>
  Option.bind (Tj p_s_p.Table r2) (fun r3 =>
  if !decide (r3.2 = 0) then
  some (([] : List Iw),r3.2)
  else
  Gl (fun (x2 : List (ByteArray × Ep)) =>
  Gl (fun (x3 : List Iw) =>
  some (x3,0)) (fun j3 =>
  Lh p_r r1 x2 j3 r1.1 0 ([] : List Iw))) (fun j2 =>
  Me j2 r3.1 0 ([] : List (ByteArray × Ep)))))) (fun j1 =>
  Lg p_r r1 j1 r1.1 0 ([] : List Du)))
def Ko (p_s2 : List Iw) (j1 : Option Bool) : List Iw → Nat → Option Bool
  | [],_=>j1
  | y1 :: ys1,i1=>Chk (inB (i1 : Int) p_s2.length) (
  if !decide (y1 = (Iw.mk ((nth p_s2 (i1 : Int)).Rank) ((nth p_s2 (i1 : Int)).Who) ((nth p_s2 (i1 : Int)).Club) ((nth p_s2 (i1 : Int)).Time) ((nth p_s2 (i1 : Int)).Fault) ((nth p_s2 (i1 : Int)).Points))) then
  some false
  else
  Ko p_s2 j1 ys1 (i1 + 1))
def Qq (p_s1 : List Iw) (p_s2 : List Iw) : Option Bool :=
  if !decide ((p_s1.length : Int) = (p_s2.length : Int)) then
  some false
  else
  Gl (some true) (fun j1 =>
  Ko p_s2 j1 p_s1 0)
def Mu (r3 : Kd) (r5 : Kd) (j1 : (List ByteArray) → Option ((List ByteArray) × Int)) : List Eh → Nat → (List ByteArray) → Option ((List ByteArray) × Int)
  | [],_,x1=>j1 x1
  | y1 :: ys1,i1,x1=>Gl (fun (x2 : List ByteArray) =>
  Mu r3 r5 j1 ys1 (i1 + 1) x2) (fun j2 =>
  Option.bind (Ob r3.p_ r3.deeds_ y1) (fun r7 =>
  if !decide (r7.2 = 0) then
  some (([] : List ByteArray),r7.2)
  else
  Option.bind (Ob r5.p_ r5.deeds_ y1) (fun r8 =>
  if !decide (r8.2 = 0) then
  some (([] : List ByteArray),r8.2)
  else
  Option.bind (Qq r7.1 r8.1) (fun r9 =>
  Gl (fun (x3 : List ByteArray) =>
  j2 x3) (fun j3 =>
  if !r9 then
  Chk (Rt x1.length) (
  j3 (x1 ++ [y1.Key]))
  else
  j3 x1)))))
def Qr (p_p : Mp) (p_l : List Dt) (p_from : Int) (p_to : Int) : Option ((List ByteArray) × Int) :=
  Option.bind (Yr p_p p_l ([p_from,p_to] : List Int)) (fun r1 =>
  if !decide (r1.2 = 0) then
  some (([] : List ByteArray),r1.2)
  else
  Option.bind (Ti p_p p_l p_from) (fun r2 =>
  Option.bind (r2) (fun r3 =>
  Option.bind (Xe r3.p_ r3.deeds_) (fun r4 =>
  if !decide (r4 = 0) then
  some (([] : List ByteArray),r4)
  else
  Option.bind (r1.1) (fun r5 =>
  Option.bind (Xe r5.p_ r5.deeds_) (fun r6 =>
  if !decide (r6 = 0) then
  some (([] : List ByteArray),r6)
  else
  Gl (fun (x1 : List ByteArray) =>
  some (x1,0)) (fun j1 =>
  Mu r3 r5 j1 p_p.Races 0 ([] : List ByteArray))))))))
def Nc (j1 : Int) : List Int → Nat → Int
  | [],_=>j1
  | y1 :: ys1,i1=>if !decide (y1 = 0) then
  y1
  else
  Nc j1 ys1 (i1 + 1)
def Ic (p_l : List Int) : Int :=
  Gl (0) (fun j1 =>
  Nc j1 p_l 0)
def Wz (p_year : Int) : Bool :=
  ((decide ((Int.tmod p_year 4) = 0)) && ((!decide ((Int.tmod p_year 100) = 0)) || (decide ((Int.tmod p_year 400) = 0))))
def Nm (p_year : Int) (p_month : Int) : Int :=
  if decide (p_month = 2) then
  if (Wz p_year) then
  29
  else
  28
  else
  Gl (fun (x1 : Bool) =>
  if x1 then
  30
  else
  31) (fun j1 =>
  if decide (p_month = 4) then
  j1 (decide (p_month = 4))
  else
  Gl (fun (x2 : Bool) =>
  j1 x2) (fun j2 =>
  if decide (p_month = 6) then
  j2 (decide (p_month = 6))
  else
  Gl (fun (x3 : Bool) =>
  j2 x3) (fun j3 =>
  if decide (p_month = 9) then
  j3 (decide (p_month = 9))
  else
  j3 (decide (p_month = 11)))))
def Pu (p_year : Int) : Int :=
  if (Wz p_year) then
  366
  else
  365
def Ym (p_n : Int) : Bool :=
  (Dx p_n (-40000) 4000)
def Nt (p_d : Ml) (j2 : Int → Option (Int × Int)) : Nat → Int → Int → Option (Int × Int)
  | 0,_,_=>none
  | m1 + 1,x2,x3=>if decide (x3 < p_d.Month) then
  Nt p_d j2 m1 (W (x2 + (Nm p_d.Year x3))) (W (x3 + 1))
  else
  j2 x2
def Nu (p_d : Ml) (j3 : Int → Option (Int × Int)) : Nat → Int → Int → Option (Int × Int)
  | 0,_,_=>none
  | m2 + 1,x4,x5=>if decide (x5 < p_d.Year) then
  Nu p_d j3 m2 (W (x4 + (Pu x5))) (W (x5 + 1))
  else
  j3 x4
def Nv (j4 : Int → Option (Int × Int)) : Nat → Int → Int → Option (Int × Int)
  | 0,_,_=>none
  | m3 + 1,x6,x7=>if decide (x7 < 2024) then
  Nv j4 m3 (W (x6 - (Pu x7))) (W (x7 + 1))
  else
  j4 x6
def Yn (p_d : Ml) : Option (Int × Int) :=
  Gl (fun (x1 : Bool) =>
  if x1 then
  some (0,1)
  else
  Gl (fun (x2 : Int) =>
  Gl (fun (x4 : Int) =>
  Gl (fun (x6 : Int) =>
  if !(Ym x6) then
  some (0,1)
  else
  some (x6,0)) (fun j4 =>
  Nv j4 ((2024 - p_d.Year).toNat + 2) x4 p_d.Year)) (fun j3 =>
  Nu p_d j3 ((p_d.Year - 2024).toNat + 2) x2 2024)) (fun j2 =>
  Nt p_d j2 ((p_d.Month - 1).toNat + 2) (W (p_d.Day - 1)) 1)) (fun j1 =>
  if !(Dx p_d.Year 1900 2100) then
  if true then
  j1 true
  else
  j1 (!(Dx p_d.Day 1 (Nm p_d.Year p_d.Month)))
  else
  if !(Dx p_d.Month 1 12) then
  j1 true
  else
  j1 (!(Dx p_d.Day 1 (Nm p_d.Year p_d.Month))))
def Kv (j1 : (List (ByteArray × Bool)) → Option Int) : List Nn → Nat → (List (ByteArray × Bool)) → Option Int
  | [],_,x1=>j1 x1
  | y1 :: ys1,i1,x1=>Option.bind (Gd y1.Key) (fun r1 =>
  if !r1 then
  some 5
  else
  if Ee x1 y1.Key false then
  some 6
  else
  if ((((!(Dx y1.Heats 1 60)) || (!(Dx y1.Long 1 3600000))) || (!(Dx y1.Gap 0 3600000))) || (!(Dx y1.Break 0 3600000))) then
  some 1
  else
  Kv j1 ys1 (i1 + 1) (Gj x1 y1.Key true))
def Ul (p_l : List Nn) : Option Int :=
  if decide (100 < (p_l.length : Int)) then
  some 2
  else
  Gl (fun (x1 : List (ByteArray × Bool)) =>
  some 0) (fun j1 =>
  Kv j1 p_l 0 ([] : List (ByteArray × Bool)))
def Lm (y1 : Nn) (j2 : (List Kn) → Int → Option (List Kn)) : Nat → (List Kn) → Int → Int → Option (List Kn)
  | 0,_,_,_=>none
  | m1 + 1,x3,x4,x5=>if decide (x5 ≤ y1.Heats) then
  Gl (fun (x6 : List Kn) (x7 : Int) =>
  Lm y1 j2 m1 x6 x7 (W (x5 + 1))) (fun j3 =>
  Chk (Rt x3.length) (
  Gl (fun (x8 : Int) =>
  j3 (x3 ++ [(Kn.mk y1.Key x5 (Tg.mk x4 (W (x4 + y1.Long))))]) x8) (fun j4 =>
  if decide (x5 < y1.Heats) then
  j4 (W ((W (x4 + y1.Long)) + y1.Gap))
  else
  j4 (W (x4 + y1.Long)))))
  else
  j2 x3 x4
def Ln (j1 : (List Kn) → Option (List Kn)) : List Nn → Nat → (List Kn) → Int → Option (List Kn)
  | [],_,x1,_=>j1 x1
  | y1 :: ys1,i1,x1,x2=>Gl (fun (x3 : List Kn) (x4 : Int) =>
  Ln j1 ys1 (i1 + 1) x3 (W (x4 + y1.Break))) (fun j2 =>
  Lm y1 j2 ((y1.Heats - 1).toNat + 2) x1 x2 1)
def Ve (p_l : List Nn) (p_from : Int) : Option (List Kn) :=
  Gl (fun (x1 : List Kn) =>
  some x1) (fun j1 =>
  Ln j1 p_l 0 ([] : List Kn) p_from)
def Yb (p_l : List Kn) (p_from : Int) : Option Int :=
  if decide ((p_l.length : Int) = 0) then
  some p_from
  else
  Chk (inB (W ((p_l.length : Int) - 1)) p_l.length) (
  some (((nth p_l (W ((p_l.length : Int) - 1))).Time).To))
def Yo (p_l : List Nn) (p_from : Int) : Option ((List Kn) × Int) :=
  if !(Ik p_from) then
  some (([] : List Kn),1)
  else
  Option.bind (Ve p_l p_from) (fun r1 =>
  Option.bind (Yb r1 p_from) (fun r2 =>
  if decide (345686400000 < r2) then
  some (([] : List Kn),1)
  else
  some (r1,0)))
def Vg (p_l : List Nn) (p_from : Int) : Option ((List Kn) × Int) :=
  Option.bind (Ul p_l) (fun r1 =>
  if !decide (r1 = 0) then
  some (([] : List Kn),r1)
  else
  Option.bind (Yo p_l p_from) (fun r2 =>
  some (r2.1,r2.2)))
def Zm (p_l : List Nn) (p_from : Int) : Option (Int × Int) :=
  Option.bind (Vg p_l p_from) (fun r1 =>
  if !decide (r1.2 = 0) then
  some (0,r1.2)
  else
  Option.bind (Yb r1.1 p_from) (fun r2 =>
  some (r2,0)))
def Qz (p_n : Int) : Bool :=
  (Dx p_n 1 360000)
def Mg (p_l : List Rd) (j1 : Option Int) : List Rd → Nat → Option Int
  | [],_=>j1
  | y1 :: ys1,i1=>Option.bind (Gd y1.Race) (fun r1 =>
  if !r1 then
  some 5
  else
  Gl (fun (c1 : Bool) =>
  if c1 then
  some 7
  else
  if !(Qz y1.Time) then
  some 1
  else
  Mg p_l j1 ys1 (i1 + 1)) (fun j2 =>
  if (decide (0 < (i1 : Int))) then Chk (inB (W ((i1 : Int) - 1)) p_l.length) (
  j2 ((decide (0 < (i1 : Int))) && (DL y1.Race ((nth p_l (W ((i1 : Int) - 1))).Race) || decide (y1.Race = ((nth p_l (W ((i1 : Int) - 1))).Race))))) else j2 ((decide (0 < (i1 : Int))) && true)))
def Vx (p_l : List Rd) : Option Int :=
  if decide (500 < (p_l.length : Int)) then
  some 2
  else
  Gl (some 0) (fun j1 =>
  Mg p_l j1 p_l 0)
def Nw (p_race : ByteArray) (j1 : Int) : List Rd → Nat → Int
  | [],_=>j1
  | y1 :: ys1,i1=>if decide (y1.Race = p_race) then
  y1.Time
  else
  Nw p_race j1 ys1 (i1 + 1)
def Sj (p_l : List Rd) (p_race : ByteArray) : Int :=
  Gl (0) (fun j1 =>
  Nw p_race j1 p_l 0)
def Rz (p_x : Int) (p_y : Int) : (Int × Int) :=
  (IntKind.wrap .u64 ((IntKind.wrap .u64 ((IntKind.wrap .u64 ((Gm .u64 p_x 32) * (Gm .u64 p_y 32))) + (Gm .u64 (IntKind.wrap .u64 ((IntKind.wrap .u64 ((Gm .u64 p_x 32) * (Np .u64 p_y 4294967295))) + (Gm .u64 (IntKind.wrap .u64 ((Np .u64 p_x 4294967295) * (Np .u64 p_y 4294967295))) 32))) 32))) + (Gm .u64 (IntKind.wrap .u64 ((Np .u64 (IntKind.wrap .u64 ((IntKind.wrap .u64 ((Gm .u64 p_x 32) * (Np .u64 p_y 4294967295))) + (Gm .u64 (IntKind.wrap .u64 ((Np .u64 p_x 4294967295) * (Np .u64 p_y 4294967295))) 32))) 4294967295) + (IntKind.wrap .u64 ((Np .u64 p_x 4294967295) * (Gm .u64 p_y 32))))) 32)),IntKind.wrap .u64 (p_x * p_y))
def Tt (p_x : Int) : Option Int :=
  Option.bind (Zk p_x) (fun r1 =>
  some (W (64 - r1)))
def Pp (p_lo : Int) (r1 : Int) (p_y : Int) (j1 : Int → Option (Int × Int)) : Nat → Int → Int → Option (Int × Int)
  | 0,_,_=>none
  | m1 + 1,x1,x2=>if ((decide (4294967296 ≤ x1)) || (decide ((IntKind.wrap .u64 ((IntKind.wrap .u64 (4294967296 * x2)) + (Gm .u64 (Fp .u64 p_lo (IntKind.wrap .u64 r1)) 32))) < (IntKind.wrap .u64 (x1 * (Np .u64 (Fp .u64 p_y (IntKind.wrap .u64 r1)) 4294967295)))))) then
  if decide (4294967296 ≤ (IntKind.wrap .u64 (x2 + (Gm .u64 (Fp .u64 p_y (IntKind.wrap .u64 r1)) 32)))) then
  j1 (IntKind.wrap .u64 (x1 - 1))
  else
  Pp p_lo r1 p_y j1 m1 (IntKind.wrap .u64 (x1 - 1)) (IntKind.wrap .u64 (x2 + (Gm .u64 (Fp .u64 p_y (IntKind.wrap .u64 r1)) 32)))
  else
  j1 x1
def Pq (p_lo : Int) (r1 : Int) (p_y : Int) (j2 : Int → Option (Int × Int)) : Nat → Int → Int → Option (Int × Int)
  | 0,_,_=>none
  | m2 + 1,x3,x4=>if ((decide (4294967296 ≤ x4)) || (decide ((IntKind.wrap .u64 ((IntKind.wrap .u64 (4294967296 * x3)) + (Np .u64 (Fp .u64 p_lo (IntKind.wrap .u64 r1)) 4294967295))) < (IntKind.wrap .u64 (x4 * (Np .u64 (Fp .u64 p_y (IntKind.wrap .u64 r1)) 4294967295)))))) then
  if decide (4294967296 ≤ (IntKind.wrap .u64 (x3 + (Gm .u64 (Fp .u64 p_y (IntKind.wrap .u64 r1)) 32)))) then
  j2 (IntKind.wrap .u64 (x4 - 1))
  else
  Pq p_lo r1 p_y j2 m2 (IntKind.wrap .u64 (x3 + (Gm .u64 (Fp .u64 p_y (IntKind.wrap .u64 r1)) 32))) (IntKind.wrap .u64 (x4 - 1))
  else
  j2 x4
def CU (p_hi : Int) (p_lo : Int) (p_y : Int) : Option (Int × Int) :=
  if decide (p_y = 0) then
  none
  else
  if decide (p_y ≤ p_hi) then
  none
  else
  if decide (p_hi = 0) then
  Chk (!decide (p_y = 0)) (
  Chk (!decide (p_y = 0)) (
  some (IntKind.wrap .u64 (Int.tdiv p_lo p_y),Int.tmod p_lo p_y)))
  else
  Option.bind (Tt p_y) (fun r1 =>
  Chk (decide (0 ≤ (IntKind.wrap .u64 r1))) (
  Chk (decide (0 ≤ (IntKind.wrap .u64 r1))) (
  Chk (decide (0 ≤ (IntKind.wrap .u64 (64 - (IntKind.wrap .u64 r1))))) (
  Chk (decide (0 ≤ (IntKind.wrap .u64 r1))) (
  Chk (!decide ((Gm .u64 (Fp .u64 p_y (IntKind.wrap .u64 r1)) 32) = 0)) (
  Gl (fun (x1 : Int) =>
  Chk (!decide ((Gm .u64 (Fp .u64 p_y (IntKind.wrap .u64 r1)) 32) = 0)) (
  Gl (fun (x4 : Int) =>
  Chk (decide (0 ≤ (IntKind.wrap .u64 r1))) (
  some (IntKind.wrap .u64 ((IntKind.wrap .u64 (x1 * 4294967296)) + x4),Gm .u64 (IntKind.wrap .u64 ((IntKind.wrap .u64 ((IntKind.wrap .u64 ((IntKind.wrap .u64 ((IntKind.wrap .u64 ((IntKind.wrap .u64 ((Sb .u64 (Fp .u64 p_hi (IntKind.wrap .u64 r1)) (Gm .u64 p_lo (IntKind.wrap .u64 (64 - (IntKind.wrap .u64 r1))))) * 4294967296)) + (Gm .u64 (Fp .u64 p_lo (IntKind.wrap .u64 r1)) 32))) - (IntKind.wrap .u64 (x1 * (Fp .u64 p_y (IntKind.wrap .u64 r1)))))) * 4294967296)) + (Np .u64 (Fp .u64 p_lo (IntKind.wrap .u64 r1)) 4294967295))) - (IntKind.wrap .u64 (x4 * (Fp .u64 p_y (IntKind.wrap .u64 r1)))))) (IntKind.wrap .u64 r1)))) (fun j2 =>
  Pq p_lo r1 p_y j2 (((IntKind.wrap .u64 (Int.tdiv (IntKind.wrap .u64 ((IntKind.wrap .u64 ((IntKind.wrap .u64 ((Sb .u64 (Fp .u64 p_hi (IntKind.wrap .u64 r1)) (Gm .u64 p_lo (IntKind.wrap .u64 (64 - (IntKind.wrap .u64 r1))))) * 4294967296)) + (Gm .u64 (Fp .u64 p_lo (IntKind.wrap .u64 r1)) 32))) - (IntKind.wrap .u64 (x1 * (Fp .u64 p_y (IntKind.wrap .u64 r1)))))) (Gm .u64 (Fp .u64 p_y (IntKind.wrap .u64 r1)) 32))) - 4294967296).toNat + 2) (IntKind.wrap .u64 ((IntKind.wrap .u64 ((IntKind.wrap .u64 ((IntKind.wrap .u64 ((Sb .u64 (Fp .u64 p_hi (IntKind.wrap .u64 r1)) (Gm .u64 p_lo (IntKind.wrap .u64 (64 - (IntKind.wrap .u64 r1))))) * 4294967296)) + (Gm .u64 (Fp .u64 p_lo (IntKind.wrap .u64 r1)) 32))) - (IntKind.wrap .u64 (x1 * (Fp .u64 p_y (IntKind.wrap .u64 r1)))))) - (IntKind.wrap .u64 ((IntKind.wrap .u64 (Int.tdiv (IntKind.wrap .u64 ((IntKind.wrap .u64 ((IntKind.wrap .u64 ((Sb .u64 (Fp .u64 p_hi (IntKind.wrap .u64 r1)) (Gm .u64 p_lo (IntKind.wrap .u64 (64 - (IntKind.wrap .u64 r1))))) * 4294967296)) + (Gm .u64 (Fp .u64 p_lo (IntKind.wrap .u64 r1)) 32))) - (IntKind.wrap .u64 (x1 * (Fp .u64 p_y (IntKind.wrap .u64 r1)))))) (Gm .u64 (Fp .u64 p_y (IntKind.wrap .u64 r1)) 32))) * (Gm .u64 (Fp .u64 p_y (IntKind.wrap .u64 r1)) 32))))) (IntKind.wrap .u64 (Int.tdiv (IntKind.wrap .u64 ((IntKind.wrap .u64 ((IntKind.wrap .u64 ((Sb .u64 (Fp .u64 p_hi (IntKind.wrap .u64 r1)) (Gm .u64 p_lo (IntKind.wrap .u64 (64 - (IntKind.wrap .u64 r1))))) * 4294967296)) + (Gm .u64 (Fp .u64 p_lo (IntKind.wrap .u64 r1)) 32))) - (IntKind.wrap .u64 (x1 * (Fp .u64 p_y (IntKind.wrap .u64 r1)))))) (Gm .u64 (Fp .u64 p_y (IntKind.wrap .u64 r1)) 32)))))) (fun j1 =>
  Pp p_lo r1 p_y j1 (((IntKind.wrap .u64 (Int.tdiv (Sb .u64 (Fp .u64 p_hi (IntKind.wrap .u64 r1)) (Gm .u64 p_lo (IntKind.wrap .u64 (64 - (IntKind.wrap .u64 r1))))) (Gm .u64 (Fp .u64 p_y (IntKind.wrap .u64 r1)) 32))) - 4294967296).toNat + 2) (IntKind.wrap .u64 (Int.tdiv (Sb .u64 (Fp .u64 p_hi (IntKind.wrap .u64 r1)) (Gm .u64 p_lo (IntKind.wrap .u64 (64 - (IntKind.wrap .u64 r1))))) (Gm .u64 (Fp .u64 p_y (IntKind.wrap .u64 r1)) 32))) (IntKind.wrap .u64 ((Sb .u64 (Fp .u64 p_hi (IntKind.wrap .u64 r1)) (Gm .u64 p_lo (IntKind.wrap .u64 (64 - (IntKind.wrap .u64 r1))))) - (IntKind.wrap .u64 ((IntKind.wrap .u64 (Int.tdiv (Sb .u64 (Fp .u64 p_hi (IntKind.wrap .u64 r1)) (Gm .u64 p_lo (IntKind.wrap .u64 (64 - (IntKind.wrap .u64 r1))))) (Gm .u64 (Fp .u64 p_y (IntKind.wrap .u64 r1)) 32))) * (Gm .u64 (Fp .u64 p_y (IntKind.wrap .u64 r1)) 32))))))))))))
def Yp (p_base : Int) (p_time : Int) : Option Int :=
  if decide ((IntKind.wrap .u64 ((IntKind.wrap .u64 ((IntKind.wrap .u64 p_time) * (IntKind.wrap .u64 p_time))) * (IntKind.wrap .u64 p_time))) ≤ ((Rz (IntKind.wrap .u64 ((IntKind.wrap .u64 ((IntKind.wrap .u64 p_base) * (IntKind.wrap .u64 p_base))) * (IntKind.wrap .u64 p_base))) 1000).1)) then
  some 1000000000
  else
  Option.bind (CU ((Rz (IntKind.wrap .u64 ((IntKind.wrap .u64 ((IntKind.wrap .u64 p_base) * (IntKind.wrap .u64 p_base))) * (IntKind.wrap .u64 p_base))) 1000).1) ((Rz (IntKind.wrap .u64 ((IntKind.wrap .u64 ((IntKind.wrap .u64 p_base) * (IntKind.wrap .u64 p_base))) * (IntKind.wrap .u64 p_base))) 1000).2) (IntKind.wrap .u64 ((IntKind.wrap .u64 ((IntKind.wrap .u64 p_time) * (IntKind.wrap .u64 p_time))) * (IntKind.wrap .u64 p_time)))) (fun r1 =>
  some (W (imin r1.1 1000000000)))
def Yq (p_l : List Rd) (p_race : ByteArray) (p_time : Int) : Option (Int × Int) :=
  Option.bind (Vx p_l) (fun r1 =>
  if !decide (r1 = 0) then
  some (0,r1)
  else
  if decide ((Sj p_l p_race) = 0) then
  some (0,8)
  else
  if !(Qz p_time) then
  some (0,1)
  else
  Option.bind (Yp (Sj p_l p_race) p_time) (fun r2 =>
  some (r2,0)))
def Lo (y1 : Tz) (j4 : Option Int) : List ByteArray → Nat → Option Int
  | [],_=>j4
  | y2 :: ys2,i2=>Option.bind (Gd y2) (fun r5 =>
  if !r5 then
  some 5
  else
  Gl (fun (c3 : Bool) =>
  if c3 then
  some 7
  else
  Lo y1 j4 ys2 (i2 + 1)) (fun j5 =>
  if (decide (0 < (i2 : Int))) then Chk (inB (W ((i2 : Int) - 1)) y1.Clubs.length) (
  j5 ((decide (0 < (i2 : Int))) && (DL y2 (nth y1.Clubs (W ((i2 : Int) - 1))) || decide (y2 = (nth y1.Clubs (W ((i2 : Int) - 1))))))) else j5 ((decide (0 < (i2 : Int))) && true)))
def Lp (p_l : List Tz) (j1 : Option Int) : List Tz → Nat → Option Int
  | [],_=>j1
  | y1 :: ys1,i1=>Option.bind (Gd y1.Key) (fun r2 =>
  Gl (fun (c1 : Bool) =>
  if c1 then
  some 5
  else
  Gl (fun (c2 : Bool) =>
  if c2 then
  some 7
  else
  if decide (100 < (y1.Clubs.length : Int)) then
  some 2
  else
  Gl (if (((decide (y1.Young < 0)) || (decide (y1.Old < y1.Young))) || (decide (150 < y1.Old))) then
  some 1
  else
  Lp p_l j1 ys1 (i1 + 1)) (fun j4 =>
  Lo y1 j4 y1.Clubs 0)) (fun j3 =>
  if (decide (0 < (i1 : Int))) then Chk (inB (W ((i1 : Int) - 1)) p_l.length) (
  j3 ((decide (0 < (i1 : Int))) && (DL y1.Key ((nth p_l (W ((i1 : Int) - 1))).Key) || decide (y1.Key = ((nth p_l (W ((i1 : Int) - 1))).Key))))) else j3 ((decide (0 < (i1 : Int))) && true))) (fun j2 =>
  if (!r2) then j2 ((!r2) || true) else Option.bind (Gd y1.Race) (fun r3 =>
  j2 ((!r2) || (!r3)))))
def Vh (p_l : List Tz) : Option Int :=
  if decide (50 < (p_l.length : Int)) then
  some 2
  else
  Gl (some 0) (fun j1 =>
  Lp p_l j1 p_l 0)
def Vy (p_x : Kg) : Option Int :=
  Gl (some 0) (fun j1 =>
  if !(Ik p_x.At) then
  some 1
  else
  if !(Dx p_x.Kind 1 3) then
  some 4
  else
  Option.bind (Gd p_x.Id) (fun r1 =>
  if !r1 then
  some 5
  else
  Gl (j1) (fun j2 =>
  if !decide (p_x.Kind = 1) then
  if !decide (p_x = (Kg.mk p_x.At p_x.Kind p_x.Id An An An 0 0)) then
  some 3
  else
  j2
  else
  Option.bind (Gd p_x.Who) (fun r2 =>
  Gl (fun (c1 : Bool) =>
  Gl (fun (c2 : Bool) =>
  if c2 then
  some 5
  else
  if ((!(Dx p_x.Age 0 150)) || (!(Qz p_x.Time))) then
  some 1
  else
  j2) (fun j4 =>
  if c1 then j4 (c1 || true) else Gl (fun (c3 : Bool) =>
  j4 (c1 || c3)) (fun j5 =>
  if (!decide (p_x.Club = An)) then Option.bind (Gd p_x.Club) (fun r4 =>
  j5 ((!decide (p_x.Club = An)) && (!r4))) else j5 ((!decide (p_x.Club = An)) && true)))) (fun j3 =>
  if (!r2) then j3 ((!r2) || true) else Option.bind (Gd p_x.Race) (fun r3 =>
  j3 ((!r2) || (!r3))))))))
def Vz (p_s : Kg) : Option Int :=
  Option.bind (Vy p_s) (fun r1 =>
  if !decide (r1 = 0) then
  some r1
  else
  if !decide (p_s.Kind = 1) then
  some 4
  else
  some 0)
def Kp (p_v : ByteArray) (j1 : Int) : List ByteArray → Nat → Int
  | [],_=>j1
  | y1 :: ys1,i1=>if decide (p_v = y1) then
  (i1 : Int)
  else
  Kp p_v j1 ys1 (i1 + 1)
def Tu (p_s : List ByteArray) (p_v : ByteArray) : Int :=
  Gl ((-1)) (fun j1 =>
  Kp p_v j1 p_s 0)
def Jp (p_s : List ByteArray) (p_v : ByteArray) : Bool :=
  decide (0 ≤ (Tu p_s p_v))
def Zn (p_k : Tz) (p_s : Kg) : Bool :=
  (((decide (p_s.Race = p_k.Race)) && ((decide ((p_k.Clubs.length : Int) = 0)) || (Jp p_k.Clubs p_s.Club))) && (Dx p_s.Age p_k.Young p_k.Old))
def Ps (p_s : Kg) (j1 : (List ByteArray) → Option ((List ByteArray) × Int)) : List Tz → Nat → (List ByteArray) → Option ((List ByteArray) × Int)
  | [],_,x1=>j1 x1
  | y1 :: ys1,i1,x1=>Gl (fun (x2 : List ByteArray) =>
  Ps p_s j1 ys1 (i1 + 1) x2) (fun j2 =>
  Gl (fun (x3 : List ByteArray) =>
  j2 x3) (fun j3 =>
  if (Zn y1 p_s) then
  Chk (Rt x1.length) (
  j3 (x1 ++ [y1.Key]))
  else
  j3 x1))
def CV (p_l : List Tz) (p_s : Kg) : Option ((List ByteArray) × Int) :=
  Option.bind (Vh p_l) (fun r1 =>
  if !decide (r1 = 0) then
  some (([] : List ByteArray),r1)
  else
  Option.bind (Vz p_s) (fun r2 =>
  if !decide (r2 = 0) then
  some (([] : List ByteArray),r2)
  else
  Gl (fun (x1 : List ByteArray) =>
  some (x1,0)) (fun j1 =>
  Ps p_s j1 p_l 0 ([] : List ByteArray))))
def Ug : Option Bool :=
  Option.bind (Yn (Ml.mk 2024 3 1)) (fun r1 =>
  Option.bind (Zm [(Nn.mk k_a 2 10 5 0)] 0) (fun r2 =>
  Option.bind (Yq [(Rd.mk k_r 3000)] k_r 6000) (fun r3 =>
  Option.bind (CV ([(Tz.mk k_k k_r ([] : List ByteArray) 0 9)] : List Tz) (Kg.mk 0 1 k_i k_a An k_r 0 5)) (fun r4 =>
  some (((((decide ((Ic [r1.2,r2.2,r3.2,r4.2]) = 0)) && (decide (r1.1 = 60))) && (decide (r2.1 = 25))) && (decide (r3.1 = 125))) && (decide ((r4.1.length : Int) = 1)))))))
def Ol (p_l : List Int) : Option Bool :=
  Option.bind (Rl p_l 0) (fun r1 =>
  Option.bind (Nl p_l r1.2 0 12) (fun r2 =>
  Option.bind (Qp p_l r2.2 r2.1) (fun r3 =>
  Gl (fun (x1 : List Dt) =>
  Option.bind (Qr r1.1 x1 499 501) (fun r5 =>
  Option.bind (Qr r1.1 x1 500 502) (fun r6 =>
  Gl (fun (c1 : Bool) =>
  some c1) (fun j2 =>
  if (((decide ((Ic [r5.2,r6.2]) = 0)) && (decide ((r5.1.length : Int) = 0))) && (decide ((r6.1.length : Int) = 0))) then Option.bind (Ug) (fun r7 =>
  j2 ((((decide ((Ic [r5.2,r6.2]) = 0)) && (decide ((r5.1.length : Int) = 0))) && (decide ((r6.1.length : Int) = 0))) && r7)) else j2 ((((decide ((Ic [r5.2,r6.2]) = 0)) && (decide ((r5.1.length : Int) = 0))) && (decide ((r6.1.length : Int) = 0))) && true))))) (fun j1 =>
  Option.bind (Sp r3.1) (fun r4 =>
  Chk (Rt r4.length) (
  j1 (r4 ++ [(Dt.mk Ix 1 500 3 Ok An Mv 5000 0 An 0),(Dt.mk Ix 2 501 4 An An An 0 0 Ix 1),(Dt.mk Ix 3 502 4 An An An 0 0 Ix 2)])))))))
theorem twin_eqs : True:=by
  have h:=@Kf.eq_def; clear h; have h:=@Kf.eq_1; clear h; have h:=@Kf.eq_2; clear h
  have h:=@Js.eq_def; clear h; have h:=@Js.eq_1; clear h; have h:=@Js.eq_2; clear h
  have h:=@It.eq_def; clear h; have h:=@It.eq_1; clear h; have h:=@It.eq_2; clear h
  have h:=@El.eq_def; clear h; have h:=@El.eq_1; clear h; have h:=@El.eq_2; clear h
  have h:=@Ey.eq_def; clear h; have h:=@Ey.eq_1; clear h; have h:=@Ey.eq_2; clear h
  have h:=@Ft.eq_def; clear h; have h:=@Ft.eq_1; clear h; have h:=@Ft.eq_2; clear h
  have h:=@Gq.eq_def; clear h; have h:=@Gq.eq_1; clear h; have h:=@Gq.eq_2; clear h
  have h:=@Fu.eq_def; clear h; have h:=@Fu.eq_1; clear h; have h:=@Fu.eq_2; clear h
  have h:=@Ms.eq_def; clear h; have h:=@Ms.eq_1; clear h; have h:=@Ms.eq_2; clear h
  have h:=@Lb.eq_def; clear h; have h:=@Lb.eq_1; clear h; have h:=@Lb.eq_2; clear h
  have h:=@Ew.eq_def; clear h; have h:=@Ew.eq_1; clear h; have h:=@Ew.eq_2; clear h
  have h:=@Hu.eq_def; clear h; have h:=@Hu.eq_1; clear h; have h:=@Hu.eq_2; clear h
  have h:=@Ii.eq_def; clear h; have h:=@Ii.eq_1; clear h; have h:=@Ii.eq_2; clear h
  have h:=@Jt.eq_def; clear h; have h:=@Jt.eq_1; clear h; have h:=@Jt.eq_2; clear h
  have h:=@Fy.eq_def; clear h; have h:=@Fy.eq_1; clear h; have h:=@Fy.eq_2; clear h
  have h:=@Ju.eq_def; clear h; have h:=@Ju.eq_1; clear h; have h:=@Ju.eq_2; clear h
  have h:=@Lj.eq_def; clear h; have h:=@Lj.eq_1; clear h; have h:=@Lj.eq_2; clear h
  have h:=@Mc.eq_def; clear h; have h:=@Mc.eq_1; clear h; have h:=@Mc.eq_2; clear h
  have h:=@Hy.eq_def; clear h; have h:=@Hy.eq_1; clear h; have h:=@Hy.eq_2; clear h
  have h:=@Jf.eq_def; clear h; have h:=@Jf.eq_1; clear h; have h:=@Jf.eq_2; clear h
  have h:=@Km.eq_def; clear h; have h:=@Km.eq_1; clear h; have h:=@Km.eq_2; clear h
  have h:=@Lv.eq_def; clear h; have h:=@Lv.eq_1; clear h; have h:=@Lv.eq_2; clear h
  have h:=@Oq.eq_def; clear h; have h:=@Oq.eq_1; clear h; have h:=@Oq.eq_2; clear h
  have h:=@Gg.eq_def; clear h; have h:=@Gg.eq_1; clear h; have h:=@Gg.eq_2; clear h
  have h:=@Er.eq_def; clear h; have h:=@Er.eq_1; clear h; have h:=@Er.eq_2; clear h
  have h:=@Fa.eq_def; clear h; have h:=@Fa.eq_1; clear h; have h:=@Fa.eq_2; clear h
  have h:=@Gi.eq_def; clear h; have h:=@Gi.eq_1; clear h; have h:=@Gi.eq_2; clear h
  have h:=@Le.eq_def; clear h; have h:=@Le.eq_1; clear h; have h:=@Le.eq_2; clear h
  have h:=@Md.eq_def; clear h; have h:=@Md.eq_1; clear h; have h:=@Md.eq_2; clear h
  have h:=@Ot.eq_def; clear h; have h:=@Ot.eq_1; clear h; have h:=@Ot.eq_2; clear h
  have h:=@Nz.eq_def; clear h; have h:=@Nz.eq_1; clear h; have h:=@Nz.eq_2; clear h
  have h:=@Kr.eq_def; clear h; have h:=@Kr.eq_1; clear h; have h:=@Kr.eq_2; clear h
  have h:=@Iu.eq_def; clear h; have h:=@Iu.eq_1; clear h; have h:=@Iu.eq_2; clear h
  have h:=@Es.eq_def; clear h; have h:=@Es.eq_1; clear h; have h:=@Es.eq_2; clear h
  have h:=@Fi.eq_def; clear h; have h:=@Fi.eq_1; clear h; have h:=@Fi.eq_2; clear h
  have h:=@Gb.eq_def; clear h; have h:=@Gb.eq_1; clear h; have h:=@Gb.eq_2; clear h
  have h:=@Hc.eq_def; clear h; have h:=@Hc.eq_1; clear h; have h:=@Hc.eq_2; clear h
  have h:=@Gc.eq_def; clear h; have h:=@Gc.eq_1; clear h; have h:=@Gc.eq_2; clear h
  have h:=@Oa.eq_def; clear h; have h:=@Oa.eq_1; clear h; have h:=@Oa.eq_2; clear h
  have h:=@Nf.eq_def; clear h; have h:=@Nf.eq_1; clear h; have h:=@Nf.eq_2; clear h
  have h:=@Ng.eq_def; clear h; have h:=@Ng.eq_1; clear h; have h:=@Ng.eq_2; clear h
  have h:=@Lw.eq_def; clear h; have h:=@Lw.eq_1; clear h; have h:=@Lw.eq_2; clear h
  have h:=@Em.eq_def; clear h; have h:=@Em.eq_1; clear h; have h:=@Em.eq_2; clear h
  have h:=@Ez.eq_def; clear h; have h:=@Ez.eq_1; clear h; have h:=@Ez.eq_2; clear h
  have h:=@Fv.eq_def; clear h; have h:=@Fv.eq_1; clear h; have h:=@Fv.eq_2; clear h
  have h:=@Gr.eq_def; clear h; have h:=@Gr.eq_1; clear h; have h:=@Gr.eq_2; clear h
  have h:=@Fw.eq_def; clear h; have h:=@Fw.eq_1; clear h; have h:=@Fw.eq_2; clear h
  have h:=@Mt.eq_def; clear h; have h:=@Mt.eq_1; clear h; have h:=@Mt.eq_2; clear h
  have h:=@Kx.eq_def; clear h; have h:=@Kx.eq_1; clear h; have h:=@Kx.eq_2; clear h
  have h:=@Fj.eq_def; clear h; have h:=@Fj.eq_1; clear h; have h:=@Fj.eq_2; clear h
  have h:=@Ks.eq_def; clear h; have h:=@Ks.eq_1; clear h; have h:=@Ks.eq_2; clear h
  have h:=@Ka.eq_def; clear h; have h:=@Ka.eq_1; clear h; have h:=@Ka.eq_2; clear h
  have h:=@Kt.eq_def; clear h; have h:=@Kt.eq_1; clear h; have h:=@Kt.eq_2; clear h
  have h:=@Jj.eq_def; clear h; have h:=@Jj.eq_1; clear h; have h:=@Jj.eq_2; clear h
  have h:=@Lt.eq_def; clear h; have h:=@Lt.eq_1; clear h; have h:=@Lt.eq_2; clear h
  have h:=@Kb.eq_def; clear h; have h:=@Kb.eq_1; clear h; have h:=@Kb.eq_2; clear h
  have h:=@Jg.eq_def; clear h; have h:=@Jg.eq_1; clear h; have h:=@Jg.eq_2; clear h
  have h:=@Lk.eq_def; clear h; have h:=@Lk.eq_1; clear h; have h:=@Lk.eq_2; clear h
  have h:=@Mq.eq_def; clear h; have h:=@Mq.eq_1; clear h; have h:=@Mq.eq_2; clear h
  have h:=@Mr.eq_def; clear h; have h:=@Mr.eq_1; clear h; have h:=@Mr.eq_2; clear h
  have h:=@Lf.eq_def; clear h; have h:=@Lf.eq_1; clear h; have h:=@Lf.eq_2; clear h
  have h:=@Kc.eq_def; clear h; have h:=@Kc.eq_1; clear h; have h:=@Kc.eq_2; clear h
  have h:=@Nh.eq_def; clear h; have h:=@Nh.eq_1; clear h; have h:=@Nh.eq_2; clear h
  have h:=@Lx.eq_def; clear h; have h:=@Lx.eq_1; clear h; have h:=@Lx.eq_2; clear h
  have h:=@Lg.eq_def; clear h; have h:=@Lg.eq_1; clear h; have h:=@Lg.eq_2; clear h
  have h:=@Me.eq_def; clear h; have h:=@Me.eq_1; clear h; have h:=@Me.eq_2; clear h
  have h:=@Lh.eq_def; clear h; have h:=@Lh.eq_1; clear h; have h:=@Lh.eq_2; clear h
  have h:=@Ko.eq_def; clear h; have h:=@Ko.eq_1; clear h; have h:=@Ko.eq_2; clear h
  have h:=@Mu.eq_def; clear h; have h:=@Mu.eq_1; clear h; have h:=@Mu.eq_2; clear h
  have h:=@Nc.eq_def; clear h; have h:=@Nc.eq_1; clear h; have h:=@Nc.eq_2; clear h
  have h:=@Nt.eq_def; clear h; have h:=@Nt.eq_1; clear h; have h:=@Nt.eq_2; clear h
  have h:=@Nu.eq_def; clear h; have h:=@Nu.eq_1; clear h; have h:=@Nu.eq_2; clear h
  have h:=@Nv.eq_def; clear h; have h:=@Nv.eq_1; clear h; have h:=@Nv.eq_2; clear h
  have h:=@Kv.eq_def; clear h; have h:=@Kv.eq_1; clear h; have h:=@Kv.eq_2; clear h
  have h:=@Lm.eq_def; clear h; have h:=@Lm.eq_1; clear h; have h:=@Lm.eq_2; clear h
  have h:=@Ln.eq_def; clear h; have h:=@Ln.eq_1; clear h; have h:=@Ln.eq_2; clear h
  have h:=@Mg.eq_def; clear h; have h:=@Mg.eq_1; clear h; have h:=@Mg.eq_2; clear h
  have h:=@Nw.eq_def; clear h; have h:=@Nw.eq_1; clear h; have h:=@Nw.eq_2; clear h
  have h:=@Pp.eq_def; clear h; have h:=@Pp.eq_1; clear h; have h:=@Pp.eq_2; clear h
  have h:=@Pq.eq_def; clear h; have h:=@Pq.eq_1; clear h; have h:=@Pq.eq_2; clear h
  have h:=@Lo.eq_def; clear h; have h:=@Lo.eq_1; clear h; have h:=@Lo.eq_2; clear h
  have h:=@Lp.eq_def; clear h; have h:=@Lp.eq_1; clear h; have h:=@Lp.eq_2; clear h
  have h:=@Kp.eq_def; clear h; have h:=@Kp.eq_1; clear h; have h:=@Kp.eq_2; clear h
  have h:=@Ps.eq_def; clear h; have h:=@Ps.eq_1; clear h; have h:=@Ps.eq_2; clear h
  trivial
end
end Go.Proofs.YtjlcjcabljbolaaGreatDoor
