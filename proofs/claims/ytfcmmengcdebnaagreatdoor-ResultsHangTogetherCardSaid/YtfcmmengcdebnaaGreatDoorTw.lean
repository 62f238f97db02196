/- The Go functions as plain Lean functions,by program. -/
import Derived.Test.YtfcmmengcdebnaaGreatDoorBase
namespace Go.Proofs.YtfcmmengcdebnaaGreatDoor
open Go
noncomputable section
structure ST where
  L : List Int
  at_ : Int
  deriving DecidableEq,Inhabited
structure Dy where
  Key : ByteArray
  Metres : Int
  Stroke : Int
  Course : Int
  Legs : Int
  Sex : Int
  Young : Int
  Old : Int
  deriving DecidableEq,Inhabited
structure Kr where
  Points : List Int
  Relay : Int
  Most : Int
  deriving DecidableEq,Inhabited
structure Sy where
  Size : Int
  Many : Int
  Reserves : Int
  deriving DecidableEq,Inhabited
structure Iw where
  Races : List Dy
  Table : Kr
  Final : Sy
  deriving DecidableEq,Inhabited
structure Dk where
  Site : ByteArray
  No : Int
  At : Int
  Kind : Int
  Who : ByteArray
  Club : ByteArray
  Race : ByteArray
  Time : Int
  Fault : Int
  Of : ByteArray
  Other : Int
  deriving DecidableEq,Inhabited
structure Kg where
  p_ : Iw
  deeds_ : List Dk
  deriving DecidableEq,Inhabited
structure Eo where
  site_ : ByteArray
  no_ : Int
  deriving DecidableEq,Inhabited
structure Kj where
  Name : ByteArray
  Value : ByteArray
  deriving DecidableEq,Inhabited
structure Gq where
  Who : ByteArray
  Time : Int
  deriving DecidableEq,Inhabited
structure Em where
  Num : Int
  Den : Int
  deriving DecidableEq,Inhabited
structure Ic where
  Rank : Int
  Who : ByteArray
  Club : ByteArray
  Time : Int
  Fault : Int
  Points : Em
  deriving DecidableEq,Inhabited
structure Ii where
  Who : ByteArray
  Fault : Int
  Reports : List ByteArray
  deriving DecidableEq,Inhabited
structure Dq where
  Who : ByteArray
  Rank : Int
  Time : Int
  Fault : Int
  deriving DecidableEq,Inhabited
structure Dm where
  Race : ByteArray
  Who : ByteArray
  Club : ByteArray
  Rank : Int
  Relay : Bool
  deriving DecidableEq,Inhabited
structure Fh where
  race_ : ByteArray
  who_ : ByteArray
  deriving DecidableEq,Inhabited
structure Km where
  Key : ByteArray
  Points : Em
  deriving DecidableEq,Inhabited
structure Ds where
  x_ : Dm
  points_ : Em
  deriving DecidableEq,Inhabited
structure Mt where
  Year : Int
  Month : Int
  Day : Int
  deriving DecidableEq,Inhabited
structure Ns where
  Key : ByteArray
  Heats : Int
  Long : Int
  Gap : Int
  Break : Int
  deriving DecidableEq,Inhabited
structure Tu where
  From : Int
  To : Int
  deriving DecidableEq,Inhabited
structure Ks where
  Item : ByteArray
  Heat : Int
  Time : Tu
  deriving DecidableEq,Inhabited
structure Rp where
  Race : ByteArray
  Time : Int
  deriving DecidableEq,Inhabited
structure Uk where
  Key : ByteArray
  Race : ByteArray
  Clubs : List ByteArray
  Young : Int
  Old : Int
  deriving DecidableEq,Inhabited
structure Kk where
  At : Int
  Kind : Int
  Id : ByteArray
  Who : ByteArray
  Club : ByteArray
  Race : ByteArray
  Age : Int
  Time : Int
  deriving DecidableEq,Inhabited
def An : ByteArray:=⟨#[]⟩
def Qh : ByteArray:=⟨#[114,97]⟩
def Tj : ByteArray:=⟨#[114,98]⟩
def Wd : ByteArray:=⟨#[114,99]⟩
def Sm : ByteArray:=⟨#[115,97]⟩
def FQ : ByteArray:=⟨#[115,98]⟩
def Wz : ByteArray:=⟨#[97,110,110]⟩
def BE : ByteArray:=⟨#[98,101,97]⟩
def BF : ByteArray:=⟨#[99,105,100]⟩
def BG : ByteArray:=⟨#[100,97,110]⟩
def OX : ByteArray:=⟨#[114,122]⟩
def Uf : ByteArray:=⟨#[98,108,117,101]⟩
def EK : ByteArray:=⟨#[114,101,100]⟩
def k_A : ByteArray:=⟨#[65]⟩
def Kn : ByteArray:=⟨#[97,98,99,100,101,102,103,104,105,106,107,108,109,110,111,112,113,114,115,116,117,118,119,120,121,122]⟩
def Hx : ByteArray:=⟨#[97,98,99,100,101,102,103,104,105,106,107,108,109,110,111,112,113,114,115,116,117,118,119,120,121,122,48,49,50,51,52,53,54,55,56,57,45,95]⟩
def Ps : ByteArray:=⟨#[0,1,2,2,3,3,3,3,4,4,4,4,4,4,4,4,5,5,5,5,5,5,5,5,5,5,5,5,5,5,5,5,6,6,6,6,6,6,6,6,6,6,6,6,6,6,6,6,6,6,6,6,6,6,6,6,6,6,6,6,6,6,6,6,7,7,7,7,7,7,7,7,7,7,7,7,7,7,7,7,7,7,7,7,7,7,7,7,7,7,7,7,7,7,7,7,7,7,7,7,7,7,7,7,7,7,7,7,7,7,7,7,7,7,7,7,7,7,7,7,7,7,7,7,7,7,7,7,8,8,8,8,8,8,8,8,8,8,8,8,8,8,8,8,8,8,8,8,8,8,8,8,8,8,8,8,8,8,8,8,8,8,8,8,8,8,8,8,8,8,8,8,8,8,8,8,8,8,8,8,8,8,8,8,8,8,8,8,8,8,8,8,8,8,8,8,8,8,8,8,8,8,8,8,8,8,8,8,8,8,8,8,8,8,8,8,8,8,8,8,8,8,8,8,8,8,8,8,8,8,8,8,8,8,8,8,8,8,8,8,8,8,8,8,8,8,8,8,8,8,8,8,8,8,8,8]⟩
def Oh : ByteArray:=⟨#[32]⟩
def k_a : ByteArray:=⟨#[97]⟩
def k_r : ByteArray:=⟨#[114]⟩
def k_k : ByteArray:=⟨#[107]⟩
def k_i : ByteArray:=⟨#[105]⟩
def Qi (p_x : Int) (p_n : Int) : Option Int :=
  if decide (p_n < 1) then
  some 0
  else
  Chk (!decide (p_n = 0)) (
  Gj (fun (x1 : Int) =>
  some x1) (fun j1 =>
  if decide ((Int.tmod p_x p_n) < 0) then
  j1 (W ((Int.tmod p_x p_n) + p_n))
  else
  j1 (Int.tmod p_x p_n)))
def Pv (p_s_L : List Int) (p_s_at : Int) (p_n : Int) : Option (Int × Int) :=
  if decide ((p_s_L.length : Int) = 0) then
  Option.bind (Qi (W ((W (p_s_at + 1)) * 7919)) p_n) (fun r1 =>
  some (r1,W (p_s_at + 1)))
  else
  Chk (!decide ((p_s_L.length : Int) = 0)) (
  Chk (!decide ((p_s_L.length : Int) = 0)) (
  Chk (inB (Int.tmod (W ((W (p_s_at + 1)) - 1)) (p_s_L.length : Int)) p_s_L.length) (
  Option.bind (Qi (nth p_s_L (Int.tmod (W ((W (p_s_at + 1)) - 1)) (p_s_L.length : Int))) 1073741824) (fun r2 =>
  Option.bind (Qi (W (r2 + (W ((W (Int.tdiv (W ((W (p_s_at + 1)) - 1)) (p_s_L.length : Int))) * (W (7919 + (Int.tmod (W ((W (p_s_at + 1)) - 1)) (p_s_L.length : Int)))))))) p_n) (fun r3 =>
  some (r3,W (p_s_at + 1)))))))
def Sf (p_s_L : List Int) (p_s_at : Int) (p_n : Int) : Option (Bool × Int) :=
  Option.bind (Pv p_s_L p_s_at p_n) (fun r1 =>
  some (decide (r1.1 = 0),r1.2))
def Jp (p_s_L : List Int) (p_s_at : Int) (p_l : List Int) : Option (Int × Int) :=
  Option.bind (Pv p_s_L p_s_at (p_l.length : Int)) (fun r1 =>
  Chk (inB r1.1 p_l.length) (
  some ((nth p_l r1.1),r1.2)))
def Sn (p_s_L : List Int) (p_s_at : Int) (p_key : ByteArray) : Option (Dy × Int) :=
  Option.bind (Jp p_s_L p_s_at [50,100,200]) (fun r1 =>
  Option.bind (Jp p_s_L r1.2 [1,2,3,4]) (fun r2 =>
  Option.bind (Jp p_s_L r2.2 [25,50]) (fun r3 =>
  Option.bind (Jp p_s_L r3.2 [1,1,1,4]) (fun r4 =>
  Option.bind (Jp p_s_L r4.2 [0,1,2]) (fun r5 =>
  Option.bind (Jp p_s_L r5.2 [0,0,5,10]) (fun r6 =>
  Option.bind (Jp p_s_L r6.2 [0,5,90]) (fun r7 =>
  some ((Dy.mk p_key r1.1 r2.1 r3.1 r4.1 r5.1 r6.1 (W (r6.1 + r7.1))),r7.2))))))))
def Ki (p_s_L : List Int) (j1 : (List Dy) → Int → Option ((List Dy) × Int)) : List ByteArray → Nat → (List Dy) → Int → Option ((List Dy) × Int)
  | [],_,x1,x2=>j1 x1 x2
  | y1 :: ys1,i1,x1,x2=>Gj (fun (x3 : List Dy) (x4 : Int) =>
  Ki p_s_L j1 ys1 (i1 + 1) x3 x4) (fun j2 =>
  Option.bind (Sf p_s_L x2 6) (fun r1 =>
  Gj (fun (x5 : List Dy) (x6 : Int) =>
  j2 x5 x6) (fun j3 =>
  if !r1.1 then
  Option.bind (Sn p_s_L r1.2 y1) (fun r2 =>
  Chk (Rw x1.length) (
  j3 (x1 ++ [r2.1]) r2.2))
  else
  j3 x1 r1.2)))
def Tv (p_s_L : List Int) (p_s_at : Int) : Option ((List Dy) × Int) :=
  Gj (fun (x1 : List Dy) (x2 : Int) =>
  some (x1,x2)) (fun j1 =>
  Ki p_s_L j1 ([Qh,Tj,Wd] : List ByteArray) 0 ([] : List Dy) p_s_at)
def Nq (p_s_L : List Int) (p_s_at : Int) (p_low : Int) (p_high : Int) : Option (Int × Int) :=
  if decide (p_high < p_low) then
  some (p_low,p_s_at)
  else
  Option.bind (Pv p_s_L p_s_at (W ((W (p_high - p_low)) + 1))) (fun r1 =>
  some (W (p_low + r1.1),r1.2))
def Jy (r4 : Int × Int) (p_s_L : List Int) (j1 : (List Int) → Int → Option (Kr × Int)) : Nat → (List Int) → Int → Int → Int → Option (Kr × Int)
  | 0,_,_,_,_=>none
  | m1 + 1,x1,x2,x3,x4=>if decide (x4 < r4.1) then
  Chk (Rw x1.length) (
  Option.bind (Jp p_s_L x2 [0,1,2,3]) (fun r5 =>
  Jy r4 p_s_L j1 m1 (x1 ++ [x3]) r5.2 (FL 0 (W (x3 - r5.1))) (W (x4 + 1))))
  else
  j1 x1 x2
def Rc (p_s_L : List Int) (p_s_at : Int) : Option (Kr × Int) :=
  Option.bind (Jp p_s_L p_s_at [1,2]) (fun r1 =>
  Option.bind (Jp p_s_L r1.2 [0,0,1,2]) (fun r2 =>
  Option.bind (Jp p_s_L r2.2 [10,9,7,5]) (fun r3 =>
  Option.bind (Nq p_s_L r3.2 0 5) (fun r4 =>
  Gj (fun (x1 : List Int) (x2 : Int) =>
  some ((Kr.mk x1 r1.1 r2.1),x2)) (fun j1 =>
  Jy r4 p_s_L j1 ((r4.1 - 0).toNat + 2) ([] : List Int) r4.2 r3.1 0)))))
def Ja (j1 : (List Dy) → Option (List Dy)) : Nat → (List Dy) → Int → Int → Option (List Dy)
  | 0,_,_,_=>none
  | m1 + 1,x1,x2,x3=>if decide (x2 < x3) then
  Chk (inB x3 x1.length) (
  Chk (inB x2 x1.length) (
  Chk (inB x2 x1.length) (
  Chk (inB x3 (x1.set x2.toNat (nth x1 x3)).length) (
  Ja j1 m1 ((x1.set x2.toNat (nth x1 x3)).set x3.toNat (nth x1 x2)) (W (x2 + 1)) (W (x3 - 1))))))
  else
  j1 x1
def Pn (p_s : List Dy) : Option (List Dy) :=
  Gj (fun (x1 : List Dy) =>
  some x1) (fun j1 =>
  Ja j1 (((W ((p_s.length : Int) - 1)) - 0).toNat + 2) p_s 0 (W ((p_s.length : Int) - 1)))
def Ry (p_s_L : List Int) (p_s_at : Int) : Option (Iw × Int) :=
  Option.bind (Tv p_s_L p_s_at) (fun r1 =>
  Option.bind (Rc p_s_L r1.2) (fun r2 =>
  Option.bind (Nq p_s_L r2.2 1 3) (fun r3 =>
  Option.bind (Nq p_s_L r3.2 1 2) (fun r4 =>
  Option.bind (Nq p_s_L r4.2 0 2) (fun r5 =>
  Option.bind (Pn r1.1) (fun r6 =>
  some ((Iw.mk r6 r2.1 (Sy.mk r3.1 r4.1 r5.1)),r5.2)))))))
def Nv (p_s_L : List Int) (p_s_at : Int) (p_l : List ByteArray) : Option (ByteArray × Int) :=
  Option.bind (Pv p_s_L p_s_at (p_l.length : Int)) (fun r1 =>
  Chk (inB r1.1 p_l.length) (
  some ((nth p_l r1.1),r1.2)))
def Sg (p_s_L : List Int) (p_s_at : Int) (p_low : Int) (p_high : Int) : Option (Int × Int) :=
  Option.bind (Sf p_s_L p_s_at 12) (fun r1 =>
  if r1.1 then
  Option.bind (Jp p_s_L r1.2 [W (p_low - 1),W (p_high + 1),p_low,p_high,(-1099511627776),1099511627776]) (fun r2 =>
  some (r2.1,r2.2))
  else
  Option.bind (Nq p_s_L r1.2 p_low p_high) (fun r3 =>
  some (r3.1,r3.2)))
def Ul (p_n : Int) : Int :=
  if decide (p_n < 0) then
  (-1)
  else
  if decide (0 < p_n) then
  1
  else
  0
def Hp (s t : ByteArray) : Int:=Lib.compareBytes s.data.toList t.data.toList
def Jn (p_a : Dk) (p_b : Dk) : Int :=
  if !decide (p_a.At = p_b.At) then
  (Ul (W (p_a.At - p_b.At)))
  else
  if !decide (p_a.Site = p_b.Site) then
  (Hp p_a.Site p_b.Site)
  else
  (Ul (W (p_a.No - p_b.No)))
def Eh (p_a : Int) (j2 : (List Dk) → Option (List Dk)) : Nat → (List Dk) → Int → Option (List Dk)
  | 0,_,_=>none
  | m2 + 1,x3,x4=>Gj (fun (x5 : Bool) =>
  if x5 then
  Chk (inB (W (x4 - 1)) x3.length) (
  Chk (inB x4 x3.length) (
  Chk (inB x4 x3.length) (
  Chk (inB (W (x4 - 1)) (x3.set x4.toNat (nth x3 (W (x4 - 1)))).length) (
  Eh p_a j2 m2 ((x3.set x4.toNat (nth x3 (W (x4 - 1)))).set ((W (x4 - 1)).toNat) (nth x3 x4)) (W (x4 - 1))))))
  else
  j2 x3) (fun j3 =>
  if decide (p_a < x4) then
  Chk (inB x4 x3.length) (
  Chk (inB (W (x4 - 1)) x3.length) (
  j3 (decide ((Jn (nth x3 x4) (nth x3 (W (x4 - 1)))) < 0))))
  else
  j3 false)
def Ey (p_b : Int) (p_a : Int) (j1 : (List Dk) → Option (List Dk)) : Nat → (List Dk) → Int → Option (List Dk)
  | 0,_,_=>none
  | m1 + 1,x1,x2=>if decide (x2 < p_b) then
  Gj (fun (x3 : List Dk) =>
  Ey p_b p_a j1 m1 x3 (W (x2 + 1))) (fun j2 =>
  Eh p_a j2 ((x2 - p_a).toNat + 2) x1 x2)
  else
  j1 x1
def Ha (p_data : List Dk) (p_a : Int) (p_b : Int) : Option (List Dk) :=
  Gj (fun (x1 : List Dk) =>
  some x1) (fun j1 =>
  Ey p_b p_a j1 ((p_b - (W (p_a + 1))).toNat + 2) p_data (W (p_a + 1)))
def Ft (p_n : Int) (j1 : (List Dk) → Int → Option (List Dk)) : Nat → (List Dk) → Int → Int → Option (List Dk)
  | 0,_,_,_=>none
  | m1 + 1,x1,x2,x3=>if decide (x3 ≤ p_n) then
  Option.bind (Ha x1 x2 x3) (fun r1 =>
  Ft p_n j1 m1 r1 x3 (W (x3 + 20)))
  else
  j1 x1 x2
def Gu (p_n : Int) (j3 : Int → Option (List Dk)) : Nat → Int → Int → Option (List Dk)
  | 0,_,_=>none
  | _ + 1,x5,x6=>if decide (x6 ≤ p_n) then
  none
  else
  j3 x5
def Fu (p_n : Int) (j2 : Option (List Dk)) : Nat → Int → Option (List Dk)
  | 0,_=>none
  | m2 + 1,x4=>if decide (x4 < p_n) then
  Gj (fun (x5 : Int) =>
  if decide ((W (x5 + x4)) < p_n) then
  none
  else
  Fu p_n j2 m2 (W (x4 * 2))) (fun j3 =>
  Gu p_n j3 ((p_n - (W (2 * x4))).toNat + 2) 0 (W (2 * x4)))
  else
  j2
def Ji (p_data : List Dk) (p_n : Int) : Option (List Dk) :=
  Gj (fun (x1 : List Dk) (x2 : Int) =>
  Option.bind (Ha x1 x2 p_n) (fun r2 =>
  Gj (some r2) (fun j2 =>
  Fu p_n j2 ((p_n - 20).toNat + 2) 20))) (fun j1 =>
  Ft p_n j1 ((p_n - 20).toNat + 2) p_data 0 20)
def Hr (p_x : List Dk) : Option (List Dk) :=
  Option.bind (Ji p_x (p_x.length : Int)) (fun r1 =>
  some r1)
def Mz (p_many : Int) (p_s_L : List Int) (j1 : (List (ByteArray × Int)) → (List Dk) → Int → Option ((List Dk) × Int)) : Nat → (List (ByteArray × Int)) → (List Dk) → Int → Int → Int → Option ((List Dk) × Int)
  | 0,_,_,_,_,_=>none
  | m1 + 1,x1,x2,x3,x4,x5=>if decide (x5 < p_many) then
  Option.bind (Jp p_s_L x3 [0,1,5]) (fun r1 =>
  Option.bind (Nv p_s_L r1.2 [Sm,Sm,FQ]) (fun r2 =>
  Option.bind (Jp p_s_L r2.2 [1,1,1,3,3,3,2,4]) (fun r3 =>
  Gj (fun (x6 : ByteArray) (x7 : ByteArray) (x8 : Int) =>
  Gj (fun (x9 : ByteArray) (x10 : Int) (x11 : Int) (x12 : ByteArray) (x13 : Int) (x14 : Int) =>
  Option.bind (Sf p_s_L x14 100) (fun r12 =>
  Gj (fun (x29 : ByteArray) (x30 : Int) (x31 : Int) (x32 : ByteArray) (x33 : ByteArray) (x34 : ByteArray) (x35 : Int) (x36 : Int) (x37 : Int) (x38 : Int) =>
  Chk (Rw x2.length) (
  Mz p_many p_s_L j1 m1 (Gl x1 r2.1 (W ((Ea x1 r2.1 0) + 1))) (x2 ++ [(Dk.mk x29 x30 (W (x4 + r1.1)) x31 x32 x33 x34 x35 x36 x12 x37)]) x38 (W (x4 + r1.1)) (W (x5 + 1)))) (fun j7 =>
  if r12.1 then
  Option.bind (Pv p_s_L r12.2 4) (fun r13 =>
  Gj (fun (x39 : ByteArray) (x40 : Int) (x41 : Int) (x42 : ByteArray) (x43 : ByteArray) (x44 : ByteArray) (x45 : Int) (x46 : Int) (x47 : Int) (x48 : Int) =>
  j7 x39 x40 x41 x42 x43 x44 x45 x46 x47 x48) (fun j8 =>
  Gj (fun (x49 : ByteArray) (x50 : Int) (x51 : Int) (x52 : ByteArray) (x53 : ByteArray) (x54 : ByteArray) (x55 : Int) (x56 : Int) (x57 : Int) (x58 : Int) =>
  j8 x49 x50 x51 x52 x53 x54 x55 x56 x57 x58) (fun j9 =>
  if decide (r13.1 = 0) then
  Option.bind (Nv p_s_L r13.2 [An,Sm]) (fun r14 =>
  Option.bind (Sg p_s_L r14.2 1 9) (fun r15 =>
  j9 r14.1 r15.1 r3.1 x6 x9 x7 x10 x11 x13 r15.2))
  else
  Gj (fun (x59 : Int) (x60 : ByteArray) (x61 : ByteArray) (x62 : ByteArray) (x63 : Int) (x64 : Int) (x65 : Int) (x66 : Int) =>
  j9 r2.1 (Ea (Gl x1 r2.1 (W ((Ea x1 r2.1 0) + 1))) r2.1 0) x59 x60 x61 x62 x63 x64 x65 x66) (fun j10 =>
  if decide (r13.1 = 1) then
  Option.bind (Sg p_s_L r13.2 1 4) (fun r16 =>
  j10 r16.1 x6 x9 x7 x10 x11 x13 r16.2)
  else
  Gj (fun (x67 : ByteArray) (x68 : ByteArray) (x69 : ByteArray) (x70 : Int) (x71 : Int) (x72 : Int) (x73 : Int) =>
  j10 r3.1 x67 x68 x69 x70 x71 x72 x73) (fun j11 =>
  if decide (r13.1 = 2) then
  Option.bind (Nv p_s_L r13.2 [An,Wz]) (fun r17 =>
  Option.bind (Nv p_s_L r17.2 [k_A,Uf]) (fun r18 =>
  Option.bind (Nv p_s_L r18.2 [An,Qh]) (fun r19 =>
  j11 r17.1 r18.1 r19.1 x10 x11 x13 r19.2)))
  else
  Option.bind (Sg p_s_L r13.2 0 360000) (fun r20 =>
  Option.bind (Sg p_s_L r20.2 0 8) (fun r21 =>
  Option.bind (Sg p_s_L r21.2 0 5) (fun r22 =>
  j11 x6 x9 x7 r20.1 r21.1 r22.1 r22.2))))))))
  else
  j7 r2.1 (Ea (Gl x1 r2.1 (W ((Ea x1 r2.1 0) + 1))) r2.1 0) r3.1 x6 x9 x7 x10 x11 x13 r12.2))) (fun j3 =>
  Gj (fun (x15 : ByteArray) (x16 : Int) (x17 : Int) (x18 : ByteArray) (x19 : Int) (x20 : Int) =>
  j3 x15 x16 x17 x18 x19 x20) (fun j4 =>
  if decide (r3.1 = 1) then
  Option.bind (Nv p_s_L x8 [Uf,EK,An]) (fun r6 =>
  Option.bind (Jp p_s_L r6.2 [0,5900,6000,7000]) (fun r7 =>
  j4 r6.1 r7.1 0 An 0 r7.2))
  else
  Gj (fun (x21 : Int) (x22 : Int) (x23 : ByteArray) (x24 : Int) (x25 : Int) =>
  j4 An x21 x22 x23 x24 x25) (fun j5 =>
  if decide (r3.1 = 3) then
  Option.bind (Jp p_s_L x8 [0,5900,5900,6000,6100]) (fun r8 =>
  Option.bind (Jp p_s_L r8.2 [0,0,0,0,3]) (fun r9 =>
  j5 r8.1 r9.1 An 0 r9.2))
  else
  Gj (fun (x26 : ByteArray) (x27 : Int) (x28 : Int) =>
  j5 0 0 x26 x27 x28) (fun j6 =>
  if decide (r3.1 = 4) then
  Option.bind (Nv p_s_L x8 [Sm,Sm,FQ]) (fun r10 =>
  Option.bind (Nq p_s_L r10.2 1 (FL 1 (Ea (Gl x1 r2.1 (W ((Ea x1 r2.1 0) + 1))) Sm 0))) (fun r11 =>
  j6 r10.1 r11.1 r11.2))
  else
  j6 An 0 x8))))) (fun j2 =>
  if !decide (r3.1 = 4) then
  Option.bind (Nv p_s_L r3.2 [Wz,BE,BF,BG]) (fun r4 =>
  Option.bind (Nv p_s_L r4.2 [Qh,Qh,Tj,OX]) (fun r5 =>
  j2 r4.1 r5.1 r5.2))
  else
  j2 An An r3.2))))
  else
  j1 x1 x2 x3
def Vi (p_s_L : List Int) (p_s_at : Int) (p_many : Int) : Option ((List Dk) × Int) :=
  Gj (fun (x1 : List (ByteArray × Int)) (x2 : List Dk) (x3 : Int) =>
  Option.bind (Hr x2) (fun r23 =>
  some (r23,x3))) (fun j1 =>
  Mz p_many p_s_L j1 ((p_many - 0).toNat + 2) ([] : List (ByteArray × Int)) ([] : List Dk) p_s_at 0 0)
def Kh (p_n : Int) (p_low : Int) (p_high : Int) : Bool :=
  ((decide (p_low ≤ p_n)) && (decide (p_n ≤ p_high)))
def Tb (s : ByteArray) (c : Int) : Int:=Lib.indexByte s.data.toList c.toNat.toUInt8
def Li (p_s : ByteArray) (p_some : ByteArray) (j1 : Option Bool) : Nat → Int → Option Bool
  | 0,_=>none
  | m1 + 1,x1=>if decide (x1 < (p_s.size : Int)) then
  Chk (inB x1 p_s.size) (
  if decide ((Tb p_some (Yk p_s x1)) < 0) then
  some false
  else
  Li p_s p_some j1 m1 (W (x1 + 1)))
  else
  j1
def St (p_s : ByteArray) (p_some : ByteArray) : Option Bool :=
  Gj (some true) (fun j1 =>
  Li p_s p_some j1 (((p_s.size : Int) - 0).toNat + 2) 0)
def Ov (p_s : ByteArray) : Option Bool :=
  Gj (fun (c1 : Bool) =>
  Gj (fun (c2 : Bool) =>
  some c2) (fun j2 =>
  if c1 then Option.bind (St p_s Hx) (fun r2 =>
  j2 (c1 && r2)) else j2 (c1 && true))) (fun j1 =>
  if (Kh (p_s.size : Int) 1 40) then Chk (CR 0 1 p_s.size) (
  Option.bind (St (MO p_s 0 1) Kn) (fun r1 =>
  j1 ((Kh (p_s.size : Int) 1 40) && r1))) else j1 ((Kh (p_s.size : Int) 1 40) && true))
def Pk (p_at : Int) : Bool :=
  (Kh p_at 0 345686399999)
def Qj (p_d : Dk) : Option Int :=
  Option.bind (Ov p_d.Site) (fun r1 =>
  if !r1 then
  some 5
  else
  if ((!(Kh p_d.No 1 1000000)) || (!(Pk p_d.At))) then
  some 1
  else
  if !(Kh p_d.Kind 1 4) then
  some 4
  else
  Gj (fun (x1 : ByteArray) (x2 : ByteArray) (x3 : ByteArray) (x4 : Int) =>
  Gj (fun (x5 : ByteArray) =>
  Gj (fun (x6 : Int) =>
  Gj (fun (x7 : Int) =>
  if !decide (p_d = (Dk.mk p_d.Site p_d.No p_d.At p_d.Kind x1 x5 x2 x6 x7 x3 x4)) then
  some 3
  else
  some 0) (fun j7 =>
  if decide (p_d.Kind = 3) then
  if !(Kh p_d.Fault 0 8) then
  some 1
  else
  j7 p_d.Fault
  else
  j7 0)) (fun j6 =>
  if ((decide (p_d.Kind = 1)) || (decide (p_d.Kind = 3))) then
  if !(Kh p_d.Time 0 360000) then
  some 1
  else
  j6 p_d.Time
  else
  j6 0)) (fun j5 =>
  if decide (p_d.Kind = 1) then
  j5 p_d.Club
  else
  j5 An)) (fun j1 =>
  if decide (p_d.Kind = 4) then
  Option.bind (Ov p_d.Of) (fun r2 =>
  if !r2 then
  some 5
  else
  if !(Kh p_d.Other 1 1000000) then
  some 1
  else
  j1 An An p_d.Of p_d.Other)
  else
  Option.bind (Ov p_d.Who) (fun r3 =>
  Gj (fun (c1 : Bool) =>
  Gj (fun (c2 : Bool) =>
  if c2 then
  some 5
  else
  j1 p_d.Who p_d.Race An 0) (fun j3 =>
  if c1 then j3 (c1 || true) else Gj (fun (c3 : Bool) =>
  j3 (c1 || c3)) (fun j4 =>
  if ((decide (p_d.Kind = 1)) && (!decide (p_d.Club = An))) then Option.bind (Ov p_d.Club) (fun r5 =>
  j4 (((decide (p_d.Kind = 1)) && (!decide (p_d.Club = An))) && (!r5))) else j4 (((decide (p_d.Kind = 1)) && (!decide (p_d.Club = An))) && true)))) (fun j2 =>
  if (!r3) then j2 ((!r3) || true) else Option.bind (Ov p_d.Race) (fun r4 =>
  j2 ((!r3) || (!r4)))))))
def Ut (p_a : Dk) (p_b : Dk) : Bool :=
  ((decide (p_a.Site = p_b.Site)) && (decide (p_a.No = p_b.No)))
def Oi (p_o : Dk) (p_a1 : Dk) : Bool :=
  (Ut p_o p_a1)
def Ew (p_f_0 : Dk) (j1 : Int) : List Dk → Nat → Int
  | [],_=>j1
  | y1 :: ys1,i1=>if (Oi y1 p_f_0) then
  (i1 : Int)
  else
  Ew p_f_0 j1 ys1 (i1 + 1)
def Lj (p_s : List Dk) (p_f_0 : Dk) : Int :=
  Gj ((-1)) (fun j1 =>
  Ew p_f_0 j1 p_s 0)
def Iy (p_s : List Dk) (p_f_0 : Dk) : Bool :=
  decide (0 ≤ (Lj p_s p_f_0))
def Hy (p_l : List Dk) (j1 : Option Int) : List Dk → Nat → Option Int
  | [],_=>j1
  | y1 :: ys1,i1=>Option.bind (Qj y1) (fun r1 =>
  if !decide (r1 = 0) then
  some r1
  else
  Gj (fun (x1 : Bool) =>
  if x1 then
  some 7
  else
  Hy p_l j1 ys1 (i1 + 1)) (fun j2 =>
  if decide (0 < (i1 : Int)) then
  Chk (inB (W ((i1 : Int) - 1)) p_l.length) (
  j2 (decide (0 ≤ (Jn (nth p_l (W ((i1 : Int) - 1))) y1))))
  else
  j2 false))
def Ip (p_l : List Dk) (j3 : Option Int) : List Dk → Nat → Option Int
  | [],_=>j3
  | y2 :: ys2,i2=>Chk (CR 0 (i2 : Int) p_l.length) (
  if (Iy (cut p_l 0 (i2 : Int)) y2) then
  some 6
  else
  Ip p_l j3 ys2 (i2 + 1))
def Po (p_l : List Dk) : Option Int :=
  if decide (2000 < (p_l.length : Int)) then
  some 2
  else
  Gj (Gj (some 0) (fun j3 =>
  Ip p_l j3 p_l 0)) (fun j1 =>
  Hy p_l j1 p_l 0)
def Jz (p_s_L : List Int) (p_many : Int) (j1 : Int → Option ((List Dk) × Int)) : Nat → Int → Int → Option ((List Dk) × Int)
  | 0,_,_=>none
  | m1 + 1,x1,x2=>if decide (x2 < 5) then
  Option.bind (Vi p_s_L x1 p_many) (fun r1 =>
  Option.bind (Po r1.1) (fun r2 =>
  if decide (r2 = 0) then
  some (r1.1,r1.2)
  else
  Jz p_s_L p_many j1 m1 r1.2 (W (x2 + 1))))
  else
  j1 x1
def Rd (p_s_L : List Int) (p_s_at : Int) (p_many : Int) : Option ((List Dk) × Int) :=
  Gj (fun (x1 : Int) =>
  some (([] : List Dk),x1)) (fun j1 =>
  Jz p_s_L p_many j1 7 p_s_at 0)
def Vj (s c : ByteArray) : Option ByteArray :=
  Chk (decide (s.size ≤ 9223372036854775807)) (Chk (decide (c.size < 4294967281)) (Chk (c.data.toList.all fun b=>decide (b.toNat < 128)) (some ⟨(Lib.trimS s.data.toList c.data.toList).toArray⟩)))
def Gf (p_s : ByteArray) : Option Bool :=
  Gj (fun (c1 : Bool) =>
  Gj (fun (c2 : Bool) =>
  Gj (fun (c3 : Bool) =>
  some c3) (fun j3 =>
  if c2 then Option.bind (Vj p_s Hx) (fun r1 =>
  j3 (c2 && (decide (r1 = An)))) else j3 (c2 && true))) (fun j2 =>
  if c1 then Chk (inB 0 p_s.size) (
  j2 (c1 && (decide ((Yk p_s 0) ≤ 122)))) else j2 (c1 && true))) (fun j1 =>
  if ((decide (1 ≤ (p_s.size : Int))) && (decide ((p_s.size : Int) ≤ 40))) then Chk (inB 0 p_s.size) (
  j1 (((decide (1 ≤ (p_s.size : Int))) && (decide ((p_s.size : Int) ≤ 40))) && (decide (97 ≤ (Yk p_s 0))))) else j1 (((decide (1 ≤ (p_s.size : Int))) && (decide ((p_s.size : Int) ≤ 40))) && true))
def Dv (p_n : Int) (p_low : Int) (p_high : Int) : Bool :=
  ((decide (p_low ≤ p_n)) && (decide (p_n ≤ p_high)))
def Nw (p_r : Dy) : Option Int :=
  Option.bind (Gf p_r.Key) (fun r1 =>
  if !r1 then
  some 5
  else
  if ((!(Dv p_r.Stroke 1 5)) || (!(Dv p_r.Sex 0 2))) then
  some 4
  else
  if (((((((!decide (p_r.Course = 25)) && (!decide (p_r.Course = 50))) || (!(Dv p_r.Legs 1 4))) || (!(Dv p_r.Metres 25 1500))) || (decide (p_r.Young < 0))) || (decide (p_r.Old < p_r.Young))) || (decide (120 < p_r.Old))) then
  some 1
  else
  Chk (!decide (p_r.Course = 0)) (
  if !decide ((Int.tmod p_r.Metres p_r.Course) = 0) then
  some 3
  else
  Gj (fun (c1 : Bool) =>
  Gj (fun (x1 : Bool) =>
  if x1 then
  some 16
  else
  some 0) (fun j2 =>
  if c1 then
  j2 c1
  else
  j2 (((decide (p_r.Stroke = 5)) && (decide (1 < p_r.Legs))) && (!decide (p_r.Legs = 4))))) (fun j1 =>
  if ((decide (p_r.Stroke = 5)) && (decide (p_r.Legs = 1))) then Chk (!decide ((W (4 * p_r.Course)) = 0)) (
  j1 (((decide (p_r.Stroke = 5)) && (decide (p_r.Legs = 1))) && (!decide ((Int.tmod p_r.Metres (W (4 * p_r.Course))) = 0)))) else j1 (((decide (p_r.Stroke = 5)) && (decide (p_r.Legs = 1))) && true))))
def Tc (p_x : Dy) (p_a1 : Dy) : Bool :=
  decide (p_x.Key = p_a1.Key)
def Fz (p_f_0 : Dy) (j1 : Int) : List Dy → Nat → Int
  | [],_=>j1
  | y1 :: ys1,i1=>if (Tc y1 p_f_0) then
  (i1 : Int)
  else
  Fz p_f_0 j1 ys1 (i1 + 1)
def Kl (p_s : List Dy) (p_f_0 : Dy) : Int :=
  Gj ((-1)) (fun j1 =>
  Fz p_f_0 j1 p_s 0)
def Iq (p_s : List Dy) (p_f_0 : Dy) : Bool :=
  decide (0 ≤ (Kl p_s p_f_0))
def Ka (p_t : Kr) (j1 : Option Int) : List Int → Nat → Option Int
  | [],_=>j1
  | y1 :: ys1,i1=>if !(Dv y1 0 10000) then
  some 1
  else
  Gj (fun (c1 : Bool) =>
  if c1 then
  some 7
  else
  Ka p_t j1 ys1 (i1 + 1)) (fun j2 =>
  if (decide (0 < (i1 : Int))) then Chk (inB (W ((i1 : Int) - 1)) p_t.Points.length) (
  j2 ((decide (0 < (i1 : Int))) && (decide ((nth p_t.Points (W ((i1 : Int) - 1))) < y1)))) else j2 ((decide (0 < (i1 : Int))) && true))
def Oj (p_t : Kr) : Option Int :=
  if decide (40 < (p_t.Points.length : Int)) then
  some 2
  else
  Gj (if ((!(Dv p_t.Relay 1 10)) || (!(Dv p_t.Most 0 10))) then
  some 1
  else
  some 0) (fun j1 =>
  Ka p_t j1 p_t.Points 0)
def Qw (p_f : Sy) : Int :=
  if (((!(Dv p_f.Size 1 10)) || (!(Dv p_f.Many 1 5))) || (!(Dv p_f.Reserves 0 10))) then
  1
  else
  0
def Lu (p_p : Iw) (j1 : Option Int) : List Dy → Nat → Option Int
  | [],_=>j1
  | y1 :: ys1,i1=>Option.bind (Nw y1) (fun r1 =>
  if !decide (r1 = 0) then
  some r1
  else
  Chk (CR 0 (i1 : Int) p_p.Races.length) (
  if (Iq (cut p_p.Races 0 (i1 : Int)) y1) then
  some 6
  else
  Lu p_p j1 ys1 (i1 + 1)))
def Tk (p_p : Iw) : Option Int :=
  if decide (100 < (p_p.Races.length : Int)) then
  some 2
  else
  Gj (Option.bind (Oj p_p.Table) (fun r2 =>
  if !decide (r2 = 0) then
  some r2
  else
  some (Qw p_p.Final))) (fun j1 =>
  Lu p_p j1 p_p.Races 0)
def Hz (p_n : Int) : Bool :=
  ((decide (0 ≤ p_n)) && (decide (p_n < 345686400000)))
def Qk (p_x : Dk) : Option Int :=
  Option.bind (Gf p_x.Site) (fun r1 =>
  if !r1 then
  some 5
  else
  if ((!(Dv p_x.No 1 1000000)) || (!(Hz p_x.At))) then
  some 1
  else
  if !(Dv p_x.Kind 1 4) then
  some 4
  else
  Gj (fun (c1 : Bool) =>
  Gj (fun (x1 : Bool) =>
  if x1 then
  some 5
  else
  Gj (fun (x2 : Bool) =>
  if x2 then
  some 1
  else
  Gj (fun (c4 : Bool) =>
  if c4 then
  some 5
  else
  if ((decide (p_x.Kind = 4)) && (!(Dv p_x.Other 1 1000000))) then
  some 1
  else
  Gj (fun (x3 : ByteArray) (x4 : ByteArray) (x5 : ByteArray) (x6 : Int) (x7 : Int) (x8 : ByteArray) (x9 : Int) =>
  if !decide (p_x = (Dk.mk p_x.Site p_x.No p_x.At p_x.Kind x3 x4 x5 x6 x7 x8 x9)) then
  some 3
  else
  some 0) (fun j7 =>
  Gj (fun (x10 : ByteArray) (x11 : ByteArray) (x12 : ByteArray) (x13 : Int) (x14 : Int) (x15 : ByteArray) (x16 : Int) =>
  j7 x10 x11 x12 x13 x14 x15 x16) (fun j8 =>
  if decide (p_x.Kind = 1) then
  j8 p_x.Who p_x.Club p_x.Race p_x.Time 0 An 0
  else
  Gj (fun (x17 : ByteArray) (x18 : ByteArray) (x19 : Int) (x20 : Int) (x21 : ByteArray) (x22 : Int) =>
  j8 x17 An x18 x19 x20 x21 x22) (fun j9 =>
  if decide (p_x.Kind = 3) then
  j9 p_x.Who p_x.Race p_x.Time p_x.Fault An 0
  else
  Gj (fun (x23 : ByteArray) (x24 : ByteArray) (x25 : ByteArray) (x26 : Int) =>
  j9 x23 x24 0 0 x25 x26) (fun j10 =>
  if decide (p_x.Kind = 4) then
  j10 An An p_x.Of p_x.Other
  else
  j10 p_x.Who p_x.Race An 0))))) (fun j6 =>
  if (decide (p_x.Kind = 4)) then Option.bind (Gf p_x.Of) (fun r5 =>
  j6 ((decide (p_x.Kind = 4)) && (!r5))) else j6 ((decide (p_x.Kind = 4)) && true))) (fun j5 =>
  if (((decide (p_x.Kind = 1)) || (decide (p_x.Kind = 3))) && (!(Dv p_x.Time 0 360000))) then
  j5 (((decide (p_x.Kind = 1)) || (decide (p_x.Kind = 3))) && (!(Dv p_x.Time 0 360000)))
  else
  j5 ((decide (p_x.Kind = 3)) && (!(Dv p_x.Fault 0 8))))) (fun j3 =>
  if c1 then
  j3 c1
  else
  Gj (fun (c3 : Bool) =>
  j3 c3) (fun j4 =>
  if ((decide (p_x.Kind = 1)) && (!decide (p_x.Club = An))) then Option.bind (Gf p_x.Club) (fun r4 =>
  j4 (((decide (p_x.Kind = 1)) && (!decide (p_x.Club = An))) && (!r4))) else j4 (((decide (p_x.Kind = 1)) && (!decide (p_x.Club = An))) && true)))) (fun j1 =>
  if (!(decide (p_x.Kind = 4))) then Option.bind (Gf p_x.Who) (fun r2 =>
  Gj (fun (c2 : Bool) =>
  j1 ((!(decide (p_x.Kind = 4))) && c2)) (fun j2 =>
  if (!r2) then j2 ((!r2) || true) else Option.bind (Gf p_x.Race) (fun r3 =>
  j2 ((!r2) || (!r3))))) else j1 ((!(decide (p_x.Kind = 4))) && true)))
def Su (p_x : Int) : Bool :=
  !decide (p_x = p_x)
def Kc (p_x : Int) (p_y : Int) : Int :=
  if (Su p_x) then
  if (Su p_y) then
  0
  else
  (-1)
  else
  if (Su p_y) then
  1
  else
  if decide (p_x < p_y) then
  (-1)
  else
  if decide (p_y < p_x) then
  1
  else
  0
def Mi (j1 : Int) : List Int → Nat → Int
  | [],_=>j1
  | y1 :: ys1,i1=>if !decide (y1 = 0) then
  y1
  else
  Mi j1 ys1 (i1 + 1)
def Tl (p_vals : List Int) : Int :=
  Gj (0) (fun j1 =>
  Mi j1 p_vals 0)
def Nb (p_a : Dk) (p_b : Dk) : Int :=
  (Tl [(Kc p_a.At p_b.At),(Hp p_a.Site p_b.Site),(Kc p_a.No p_b.No)])
def Fd (p_x : Dk) : Eo :=
  (Eo.mk p_x.Site p_x.No)
def Ib (p_l : List Dk) (j1 : (List (Eo × Bool)) → Bool → Option Int) : List Dk → Nat → (List (Eo × Bool)) → Bool → Option Int
  | [],_,x1,x2=>j1 x1 x2
  | y1 :: ys1,i1,x1,x2=>Option.bind (Qk y1) (fun r1 =>
  if !decide (r1 = 0) then
  some r1
  else
  Gj (fun (x3 : Bool) =>
  if x3 then
  some 7
  else
  Ib p_l j1 ys1 (i1 + 1) (Gl x1 (Fd y1) true) (x2 || (Ea x1 (Fd y1) false))) (fun j2 =>
  if decide (0 < (i1 : Int)) then
  Chk (inB (W ((i1 : Int) - 1)) p_l.length) (
  j2 (decide (0 ≤ (Nb (nth p_l (W ((i1 : Int) - 1))) y1))))
  else
  j2 false))
def Pl (p_l : List Dk) : Option Int :=
  if decide (2000 < (p_l.length : Int)) then
  some 2
  else
  Gj (fun (x1 : List (Eo × Bool)) (x2 : Bool) =>
  if x2 then
  some 6
  else
  some 0) (fun j1 =>
  Ib p_l j1 p_l 0 ([] : List (Eo × Bool)) false)
def Jl (j1 : (List Int) → Option (List Int)) : Nat → (List Int) → Int → Int → Option (List Int)
  | 0,_,_,_=>none
  | m1 + 1,x1,x2,x3=>if decide (x2 < x3) then
  Chk (inB x3 x1.length) (
  Chk (inB x2 x1.length) (
  Chk (inB x2 x1.length) (
  Chk (inB x3 (x1.set x2.toNat (nth x1 x3)).length) (
  Jl j1 m1 ((x1.set x2.toNat (nth x1 x3)).set x3.toNat (nth x1 x2)) (W (x2 + 1)) (W (x3 - 1))))))
  else
  j1 x1
def Oq (p_s : List Int) : Option (List Int) :=
  Gj (fun (x1 : List Int) =>
  some x1) (fun j1 =>
  Jl j1 (((W ((p_s.length : Int) - 1)) - 0).toNat + 2) p_s 0 (W ((p_s.length : Int) - 1)))
  /-- Which of the deeds count,from the last one on. -/
def Wg (l : List Dk) (at_ : Int) (i : Nat) (m : List (Eo × Bool)) : Bool:=decide (at_ < (nth l (i : Int)).At) || Ea m (Fd (nth l (i : Int))) false
def Ko (l : List Dk) (at_ : Int) : List Nat → List (Eo × Bool) → List Int → Option (List Int)
  | [],_,x=>Oq x
  | i :: is,m,x=>if Wg l at_ i m then Ko l at_ is m x else
    Chk (Rw x.length) (Ko l at_ is (if decide ((nth l (i : Int)).Kind = 4) then Gl m (Eo.mk ((nth l (i : Int)).Of) ((nth l (i : Int)).Other)) true else m) (x ++ [(i : Int)]))
def Wp (l : List Dk) (at_ : Int) : Option (List Int):=Ko l at_ (Xu l.length) [] []
def Mc (p_l : List Dk) (j1 : (List Dk) → Option (Option Kg)) : List Int → Nat → (List Dk) → Option (Option Kg)
  | [],_,x1=>j1 x1
  | y1 :: ys1,i1,x1=>Chk (inB y1 p_l.length) (
  Chk (Rw x1.length) (
  Mc p_l j1 ys1 (i1 + 1) (x1 ++ [(nth p_l y1)])))
def Vn (p_p : Iw) (p_l : List Dk) (p_at : Int) : Option (Option Kg) :=
  Option.bind (Wp p_l p_at) (fun r1 =>
  Gj (fun (x1 : List Dk) =>
  some (some (Kg.mk p_p x1))) (fun j1 =>
  Mc p_l j1 r1 0 ([] : List Dk)))
def Ow (j1 : Option ((Option Kg) × Int)) : List Int → Nat → Option ((Option Kg) × Int)
  | [],_=>j1
  | y1 :: ys1,i1=>if !(Hz y1) then
  some (none,1)
  else
  Ow j1 ys1 (i1 + 1)
def Xs (p_p : Iw) (p_l : List Dk) (p_at : List Int) : Option ((Option Kg) × Int) :=
  Option.bind (Tk p_p) (fun r1 =>
  if !decide (r1 = 0) then
  some (none,r1)
  else
  Option.bind (Pl p_l) (fun r2 =>
  if !decide (r2 = 0) then
  some (none,r2)
  else
  Gj (Chk (inB (W ((p_at.length : Int) - 1)) p_at.length) (
  Option.bind (Vn p_p p_l (nth p_at (W ((p_at.length : Int) - 1)))) (fun r3 =>
  some (r3,0)))) (fun j1 =>
  Ow j1 p_at 0)))
def Wq (p_r : Dy) (p_a1 : ByteArray) : Bool :=
  decide (p_r.Key = p_a1)
def Gg (p_f_0 : ByteArray) (j1 : Int) : List Dy → Nat → Int
  | [],_=>j1
  | y1 :: ys1,i1=>if (Wq y1 p_f_0) then
  (i1 : Int)
  else
  Gg p_f_0 j1 ys1 (i1 + 1)
def Gh (p_s : List Dy) (p_f_0 : ByteArray) : Int :=
  Gj ((-1)) (fun j1 =>
  Gg p_f_0 j1 p_s 0)
def DN (p_x : Int) : Option Int :=
  Gj (fun (x1 : Int) (x2 : Int) =>
  Gj (fun (x3 : Int) (x4 : Int) =>
  Chk (inB (IntKind.wrap .u8 x3) Ps.size) (
  some (W (x4 + (W (Yk Ps (IntKind.wrap .u8 x3))))))) (fun j2 =>
  if decide (256 ≤ x1) then
  j2 (Gr .u32 x1 8) (W (x2 + 8))
  else
  j2 x1 x2)) (fun j1 =>
  if decide (65536 ≤ p_x) then
  j1 (Gr .u32 p_x 16) 16
  else
  j1 p_x 0)
def Zw (p_x : Int) : Option Int :=
  Gj (fun (x1 : Int) (x2 : Int) =>
  Gj (fun (x3 : Int) (x4 : Int) =>
  Gj (fun (x5 : Int) (x6 : Int) =>
  Chk (inB (IntKind.wrap .u8 x5) Ps.size) (
  some (W (x6 + (W (Yk Ps (IntKind.wrap .u8 x5))))))) (fun j3 =>
  if decide (256 ≤ x3) then
  j3 (Gr .u64 x3 8) (W (x4 + 8))
  else
  j3 x3 x4)) (fun j2 =>
  if decide (65536 ≤ x1) then
  j2 (Gr .u64 x1 16) (W (x2 + 16))
  else
  j2 x1 x2)) (fun j1 =>
  if decide (4294967296 ≤ p_x) then
  j1 (Gr .u64 p_x 32) 32
  else
  j1 p_x 0)
def EL (p_x : Int) : Option Int :=
  if false then
  Option.bind (DN (IntKind.wrap .u32 p_x)) (fun r1 =>
  some r1)
  else
  Option.bind (Zw p_x) (fun r2 =>
  some r2)
def Nx (p_a : Dk) (p_b : Dk) : Int :=
  (Hp p_a.Who p_b.Who)
def El (p_a : Int) (j2 : (List Dk) → Option (List Dk)) : Nat → (List Dk) → Int → Option (List Dk)
  | 0,_,_=>none
  | m2 + 1,x3,x4=>Gj (fun (x5 : Bool) =>
  if x5 then
  Chk (inB (W (x4 - 1)) x3.length) (
  Chk (inB x4 x3.length) (
  Chk (inB x4 x3.length) (
  Chk (inB (W (x4 - 1)) (x3.set x4.toNat (nth x3 (W (x4 - 1)))).length) (
  El p_a j2 m2 ((x3.set x4.toNat (nth x3 (W (x4 - 1)))).set ((W (x4 - 1)).toNat) (nth x3 x4)) (W (x4 - 1))))))
  else
  j2 x3) (fun j3 =>
  if decide (p_a < x4) then
  Chk (inB x4 x3.length) (
  Chk (inB (W (x4 - 1)) x3.length) (
  j3 (decide ((Nx (nth x3 x4) (nth x3 (W (x4 - 1)))) < 0))))
  else
  j3 false)
def Ff (p_b : Int) (p_a : Int) (j1 : (List Dk) → Option (List Dk)) : Nat → (List Dk) → Int → Option (List Dk)
  | 0,_,_=>none
  | m1 + 1,x1,x2=>if decide (x2 < p_b) then
  Gj (fun (x3 : List Dk) =>
  Ff p_b p_a j1 m1 x3 (W (x2 + 1))) (fun j2 =>
  El p_a j2 ((x2 - p_a).toNat + 2) x1 x2)
  else
  j1 x1
def Hw (p_data : List Dk) (p_a : Int) (p_b : Int) : Option (List Dk) :=
  Gj (fun (x1 : List Dk) =>
  some x1) (fun j1 =>
  Ff p_b p_a j1 ((p_b - (W (p_a + 1))).toNat + 2) p_data (W (p_a + 1)))
def Gi (p_data : List Dk) : Nat → Int → Int → Int → Bool → Option (List Dk)
  | 0,_,_,_,_=>none
  | _ + 1,x1,x2,x3,x4=>if decide ((W (x2 - x1)) ≤ 12) then
  Option.bind (Hw p_data x1 x2) (fun r1 =>
  some r1)
  else
  if decide (x3 = 0) then
  none
  else
  if !x4 then
  none
  else
  none
def Js (p_data : List Dk) (p_a : Int) (p_b : Int) (p_limit : Int) : Option (List Dk) :=
  Gi p_data 4611686018427387904 p_a p_b p_limit true
def Jj (p_x : List Dk) : Option (List Dk) :=
  Option.bind (EL (IntKind.wrap .u64 (p_x.length : Int))) (fun r1 =>
  Option.bind (Js p_x 0 (p_x.length : Int) r1) (fun r2 =>
  some r2))
def Lk (p_race : ByteArray) (j1 : (List (ByteArray × Dk)) → Option (List Dk)) : List Dk → Nat → (List (ByteArray × Dk)) → Option (List Dk)
  | [],_,x1=>j1 x1
  | y1 :: ys1,i1,x1=>Gj (fun (x2 : List (ByteArray × Dk)) =>
  Lk p_race j1 ys1 (i1 + 1) x2) (fun j2 =>
  if !decide (y1.Race = p_race) then
  j2 x1
  else
  Gj (fun (x3 : List (ByteArray × Dk)) =>
  j2 x3) (fun j3 =>
  Gj (fun (x4 : List (ByteArray × Dk)) =>
  j3 x4) (fun j4 =>
  if decide (y1.Kind = 1) then
  j4 (Gl x1 y1.Who y1)
  else
  Gj (fun (x5 : List (ByteArray × Dk)) =>
  j4 x5) (fun j5 =>
  if decide (y1.Kind = 2) then
  j5 (AP x1 y1.Who)
  else
  j5 x1))))
def Mj (j6 : (List Dk) → Option (List Dk)) : List (ByteArray × Dk) → (List Dk) → Option (List Dk)
  | [],x6=>j6 x6
  | y2 :: ys2,x6=>Option.bind (α:=(List Dk)) (
  Chk (Rw x6.length) (
  some (x6 ++ [y2.2]))) (fun s=>Mj j6 ys2 s)
def Ox (p_s_p : Iw) (p_s_deeds : List Dk) (p_race : ByteArray) : Option (List Dk) :=
  Gj (fun (x1 : List (ByteArray × Dk)) =>
  Gj (fun (x6 : List Dk) =>
  Option.bind (Jj x6) (fun r1 =>
  some r1)) (fun j6 =>
  TU x1 (fun p=>Mj j6 p ([] : List Dk)))) (fun j1 =>
  Lk p_race j1 p_s_deeds 0 ([] : List (ByteArray × Dk)))
def Wh (p_s_p : Iw) (p_s_deeds : List Dk) (p_key : ByteArray) : Option (Dy × Int) :=
  if decide ((Gh p_s_p.Races p_key) < 0) then
  some ((Dy.mk An 0 0 0 0 0 0 0),8)
  else
  Option.bind (Ox p_s_p p_s_deeds p_key) (fun r1 =>
  if decide (300 < (r1.length : Int)) then
  some ((Dy.mk An 0 0 0 0 0 0 0),2)
  else
  Chk (inB (Gh p_s_p.Races p_key) p_s_p.Races.length) (
  some ((nth p_s_p.Races (Gh p_s_p.Races p_key)),0)))
def Oy (p_s_p : Iw) (p_s_deeds : List Dk) (j1 : Option Int) : List Dy → Nat → Option Int
  | [],_=>j1
  | y1 :: ys1,i1=>Option.bind (Wh p_s_p p_s_deeds y1.Key) (fun r1 =>
  if !decide (r1.2 = 0) then
  some r1.2
  else
  Oy p_s_p p_s_deeds j1 ys1 (i1 + 1))
def Zb (p_s_p : Iw) (p_s_deeds : List Dk) : Option Int :=
  Gj (some 0) (fun j1 =>
  Oy p_s_p p_s_deeds j1 p_s_p.Races 0)
def Od (p_race : ByteArray) (j1 : (List (ByteArray × Dk)) → (List (ByteArray × Dk))) : List Dk → Nat → (List (ByteArray × Dk)) → (List (ByteArray × Dk))
  | [],_,x1=>j1 x1
  | y1 :: ys1,i1,x1=>Gj (fun (x2 : List (ByteArray × Dk)) =>
  Od p_race j1 ys1 (i1 + 1) x2) (fun j2 =>
  Gj (fun (x3 : List (ByteArray × Dk)) =>
  j2 x3) (fun j3 =>
  if ((decide (y1.Race = p_race)) && (decide (y1.Kind = 3))) then
  j3 (Gl x1 y1.Who y1)
  else
  j3 x1))
def Hk (p_s_p : Iw) (p_s_deeds : List Dk) (p_race : ByteArray) : (List (ByteArray × Dk)) :=
  Gj (fun (x1 : List (ByteArray × Dk)) =>
  x1) (fun j1 =>
  Od p_race j1 p_s_deeds 0 ([] : List (ByteArray × Dk)))
def Ll (p_s_p : Iw) (p_s_deeds : List Dk) (y1 : Dy) (j2 : (List Kj) → Option ((List Kj) × Int)) : List Dk → Nat → (List Kj) → Option ((List Kj) × Int)
  | [],_,x2=>j2 x2
  | y2 :: ys2,i2,x2=>Gj (fun (x3 : List Kj) =>
  Ll p_s_p p_s_deeds y1 j2 ys2 (i2 + 1) x3) (fun j3 =>
  Gj (fun (x4 : List Kj) =>
  j3 x4) (fun j4 =>
  if !((Qy (Hk p_s_p p_s_deeds y1.Key) y2.Who).isSome) then
  Chk (Rw x2.length) (
  j4 (x2 ++ [(Kj.mk y1.Key y2.Who)]))
  else
  j4 x2))
def Lm (p_s_p : Iw) (p_s_deeds : List Dk) (j1 : (List Kj) → Option ((List Kj) × Int)) : List Dy → Nat → (List Kj) → Option ((List Kj) × Int)
  | [],_,x1=>j1 x1
  | y1 :: ys1,i1,x1=>Option.bind (Ox p_s_p p_s_deeds y1.Key) (fun r2 =>
  Gj (fun (x2 : List Kj) =>
  Lm p_s_p p_s_deeds j1 ys1 (i1 + 1) x2) (fun j2 =>
  Ll p_s_p p_s_deeds y1 j2 r2 0 x1))
def Wr (p_s_p : Iw) (p_s_deeds : List Dk) : Option ((List Kj) × Int) :=
  Option.bind (Zb p_s_p p_s_deeds) (fun r1 =>
  if !decide (r1 = 0) then
  some (([] : List Kj),r1)
  else
  Gj (fun (x1 : List Kj) =>
  some (x1,0)) (fun j1 =>
  Lm p_s_p p_s_deeds j1 p_s_p.Races 0 ([] : List Kj)))
def Vo (p_p : Iw) (p_l : List Dk) (p_at : Int) : Option ((List Kj) × Int) :=
  Option.bind (Xs p_p p_l ([p_at] : List Int)) (fun r1 =>
  if !decide (r1.2 = 0) then
  some (([] : List Kj),r1.2)
  else
  Option.bind (r1.1) (fun r2 =>
  Option.bind (Wr r2.p_ r2.deeds_) (fun r3 =>
  some (r3.1,r3.2))))
def Zc (p_p : Iw) (p_l : List Dk) (p_race : ByteArray) (p_at : Int) : Option ((Option Kg) × Dy × Int) :=
  Option.bind (Xs p_p p_l ([p_at] : List Int)) (fun r1 =>
  if !decide (r1.2 = 0) then
  some (none,(Dy.mk An 0 0 0 0 0 0 0),r1.2)
  else
  Option.bind (r1.1) (fun r2 =>
  Option.bind (Wh r2.p_ r2.deeds_ p_race) (fun r3 =>
  some (some r2,r3.1,r3.2))))
def My (j1 : (List Gq) → Option (List Gq)) : List Dk → Nat → (List Gq) → Option (List Gq)
  | [],_,x1=>j1 x1
  | y1 :: ys1,i1,x1=>Chk (Rw x1.length) (
  My j1 ys1 (i1 + 1) (x1 ++ [(Gq.mk y1.Who y1.Time)]))
def Yp (p_s_p : Iw) (p_s_deeds : List Dk) (p_race : ByteArray) : Option (List Gq) :=
  Option.bind (Ox p_s_p p_s_deeds p_race) (fun r1 =>
  Gj (fun (x1 : List Gq) =>
  some x1) (fun j1 =>
  My j1 r1 0 ([] : List Gq)))
def Vp (p_p : Iw) (p_l : List Dk) (p_race : ByteArray) (p_at : Int) : Option ((List Gq) × Int) :=
  Option.bind (Zc p_p p_l p_race p_at) (fun r1 =>
  if !decide (r1.2.2 = 0) then
  some (([] : List Gq),r1.2.2)
  else
  Option.bind (r1.1) (fun r2 =>
  Option.bind (Yp r2.p_ r2.deeds_ p_race) (fun r3 =>
  some (r3,0))))
def Kx (j1 : (List (ByteArray × Bool)) → Bool → Option Int) : List Gq → Nat → (List (ByteArray × Bool)) → Bool → Option Int
  | [],_,x1,x2=>j1 x1 x2
  | y1 :: ys1,i1,x1,x2=>Option.bind (Gf y1.Who) (fun r1 =>
  if !r1 then
  some 5
  else
  if !(Dv y1.Time 0 360000) then
  some 1
  else
  Kx j1 ys1 (i1 + 1) (Gl x1 y1.Who true) (x2 || (Ea x1 y1.Who false)))
def So (p_l : List Gq) : Option Int :=
  if decide (300 < (p_l.length : Int)) then
  some 2
  else
  Gj (fun (x1 : List (ByteArray × Bool)) (x2 : Bool) =>
  if x2 then
  some 6
  else
  some 0) (fun j1 =>
  Kx j1 p_l 0 ([] : List (ByteArray × Bool)) false)
def Jb (p_v : List Ii) (j1 : Option Int) : List Ii → Nat → Option Int
  | [],_=>j1
  | y1 :: ys1,i1=>Option.bind (Gf y1.Who) (fun r2 =>
  if !r2 then
  some 5
  else
  if !(Dv y1.Fault 0 8) then
  some 4
  else
  Gj (fun (c1 : Bool) =>
  if c1 then
  some 7
  else
  Jb p_v j1 ys1 (i1 + 1)) (fun j2 =>
  if (decide (0 < (i1 : Int))) then Chk (inB (W ((i1 : Int) - 1)) p_v.length) (
  j2 ((decide (0 < (i1 : Int))) && (EE y1.Who ((nth p_v (W ((i1 : Int) - 1))).Who) || decide (y1.Who = ((nth p_v (W ((i1 : Int) - 1))).Who))))) else j2 ((decide (0 < (i1 : Int))) && true)))
def Pp (p_v : List Ii) : Option Int :=
  if decide (300 < (p_v.length : Int)) then
  some 2
  else
  Gj (some 0) (fun j1 =>
  Jb p_v j1 p_v 0)
def Um (p_a : Dq) (p_b : Dq) (p_a2 : Int) : Option Int :=
  Chk (!decide (p_a2 = 0)) (
  Chk (!decide (p_a2 = 0)) (
  some (W ((W (Int.tdiv p_a.Time p_a2)) - (W (Int.tdiv p_b.Time p_a2))))))
def En (p_a : Int) (p_cmp_0 : Int) (j2 : (List Dq) → Option (List Dq)) : Nat → (List Dq) → Int → Option (List Dq)
  | 0,_,_=>none
  | m2 + 1,x3,x4=>Gj (fun (x5 : Bool) =>
  if x5 then
  Chk (inB (W (x4 - 1)) x3.length) (
  Chk (inB x4 x3.length) (
  Chk (inB x4 x3.length) (
  Chk (inB (W (x4 - 1)) (x3.set x4.toNat (nth x3 (W (x4 - 1)))).length) (
  En p_a p_cmp_0 j2 m2 ((x3.set x4.toNat (nth x3 (W (x4 - 1)))).set ((W (x4 - 1)).toNat) (nth x3 x4)) (W (x4 - 1))))))
  else
  j2 x3) (fun j3 =>
  if decide (p_a < x4) then
  Chk (inB x4 x3.length) (
  Chk (inB (W (x4 - 1)) x3.length) (
  Option.bind (Um (nth x3 x4) (nth x3 (W (x4 - 1))) p_cmp_0) (fun r1 =>
  j3 (decide (r1 < 0)))))
  else
  j3 false)
def Fi (p_b : Int) (p_a : Int) (p_cmp_0 : Int) (j1 : (List Dq) → Option (List Dq)) : Nat → (List Dq) → Int → Option (List Dq)
  | 0,_,_=>none
  | m1 + 1,x1,x2=>if decide (x2 < p_b) then
  Gj (fun (x3 : List Dq) =>
  Fi p_b p_a p_cmp_0 j1 m1 x3 (W (x2 + 1))) (fun j2 =>
  En p_a p_cmp_0 j2 ((x2 - p_a).toNat + 2) x1 x2)
  else
  j1 x1
def Hi (p_data : List Dq) (p_a : Int) (p_b : Int) (p_cmp_0 : Int) : Option (List Dq) :=
  Gj (fun (x1 : List Dq) =>
  some x1) (fun j1 =>
  Fi p_b p_a p_cmp_0 j1 ((p_b - (W (p_a + 1))).toNat + 2) p_data (W (p_a + 1)))
def Gd (p_n : Int) (p_cmp_0 : Int) (j1 : (List Dq) → Int → Option (List Dq)) : Nat → (List Dq) → Int → Int → Option (List Dq)
  | 0,_,_,_=>none
  | m1 + 1,x1,x2,x3=>if decide (x3 ≤ p_n) then
  Option.bind (Hi x1 x2 x3 p_cmp_0) (fun r1 =>
  Gd p_n p_cmp_0 j1 m1 r1 x3 (W (x3 + 20)))
  else
  j1 x1 x2
def Hc (p_n : Int) (j3 : Int → Option (List Dq)) : Nat → Int → Int → Option (List Dq)
  | 0,_,_=>none
  | _ + 1,x5,x6=>if decide (x6 ≤ p_n) then
  none
  else
  j3 x5
def Ge (p_n : Int) (j2 : Option (List Dq)) : Nat → Int → Option (List Dq)
  | 0,_=>none
  | m2 + 1,x4=>if decide (x4 < p_n) then
  Gj (fun (x5 : Int) =>
  if decide ((W (x5 + x4)) < p_n) then
  none
  else
  Ge p_n j2 m2 (W (x4 * 2))) (fun j3 =>
  Hc p_n j3 ((p_n - (W (2 * x4))).toNat + 2) 0 (W (2 * x4)))
  else
  j2
def Kd (p_data : List Dq) (p_n : Int) (p_cmp_0 : Int) : Option (List Dq) :=
  Gj (fun (x1 : List Dq) (x2 : Int) =>
  Option.bind (Hi x1 x2 p_n p_cmp_0) (fun r2 =>
  Gj (some r2) (fun j2 =>
  Ge p_n j2 ((p_n - 20).toNat + 2) 20))) (fun j1 =>
  Gd p_n p_cmp_0 j1 ((p_n - 20).toNat + 2) p_data 0 20)
def Ir (p_x : List Dq) (p_cmp_0 : Int) : Option (List Dq) :=
  Option.bind (Kd p_x (p_x.length : Int) p_cmp_0) (fun r1 =>
  some r1)
def Oe (j1 : (List (ByteArray × Int)) → Option ((List Dq) × Int)) : List Ii → Nat → (List (ByteArray × Int)) → Option ((List Dq) × Int)
  | [],_,x1=>j1 x1
  | y1 :: ys1,i1,x1=>Oe j1 ys1 (i1 + 1) (Gl x1 y1.Who y1.Fault)
def Nl (x1 : List (ByteArray × Int)) (j2 : (List Dq) → (List Dq) → Option ((List Dq) × Int)) : List Gq → Nat → (List Dq) → (List Dq) → Option ((List Dq) × Int)
  | [],_,x2,x3=>j2 x2 x3
  | y2 :: ys2,i2,x2,x3=>Gj (fun (x4 : List Dq) (x5 : List Dq) =>
  Nl x1 j2 ys2 (i2 + 1) x4 x5) (fun j3 =>
  Gj (fun (x6 : List Dq) (x7 : List Dq) =>
  j3 x6 x7) (fun j4 =>
  if ((decide ((Ea x1 y2.Who 0) = 0)) && (decide (0 < y2.Time))) then
  Chk (Rw x3.length) (
  j4 x2 (x3 ++ [(Dq.mk y2.Who 0 y2.Time (Ea x1 y2.Who 0))]))
  else
  Chk (Rw x2.length) (
  j4 (x2 ++ [(Dq.mk y2.Who 0 y2.Time (Ea x1 y2.Who 0))]) x3)))
def Nm (p_by : Int) (j5 : (List Dq) → Option ((List Dq) × Int)) : List Dq → Nat → (List Dq) → Option ((List Dq) × Int)
  | [],_,x8=>j5 x8
  | _ :: ys3,i3,x8=>Gj (fun (x9 : List Dq) =>
  Nm p_by j5 ys3 (i3 + 1) x9) (fun j6 =>
  Gj (fun (c1 : Bool) =>
  Gj (fun (x10 : List Dq) =>
  j6 x10) (fun j8 =>
  if c1 then
  Chk (inB (W ((i3 : Int) - 1)) x8.length) (
  Chk (inB (i3 : Int) x8.length) (
  j8 (x8.set ((i3 : Int).toNat) (Dq.mk ((nth x8 (i3 : Int)).Who) ((nth x8 (W ((i3 : Int) - 1))).Rank) ((nth x8 (i3 : Int)).Time) ((nth x8 (i3 : Int)).Fault)))))
  else
  Chk (inB (i3 : Int) x8.length) (
  j8 (x8.set ((i3 : Int).toNat) (Dq.mk ((nth x8 (i3 : Int)).Who) (W ((i3 : Int) + 1)) ((nth x8 (i3 : Int)).Time) ((nth x8 (i3 : Int)).Fault)))))) (fun j7 =>
  if (decide (0 < (i3 : Int))) then Chk (inB (i3 : Int) x8.length) (
  Chk (!decide (p_by = 0)) (
  Chk (inB (W ((i3 : Int) - 1)) x8.length) (
  Chk (!decide (p_by = 0)) (
  j7 ((decide (0 < (i3 : Int))) && (decide ((W (Int.tdiv ((nth x8 (i3 : Int)).Time) p_by)) = (W (Int.tdiv ((nth x8 (W ((i3 : Int) - 1))).Time) p_by))))))))) else j7 ((decide (0 < (i3 : Int))) && true)))
def Zx (p_l : List Gq) (p_v : List Ii) (p_by : Int) : Option ((List Dq) × Int) :=
  Option.bind (So p_l) (fun r1 =>
  if !decide (r1 = 0) then
  some (([] : List Dq),r1)
  else
  Option.bind (Pp p_v) (fun r2 =>
  if !decide (r2 = 0) then
  some (([] : List Dq),r2)
  else
  Gj (fun (x1 : List (ByteArray × Int)) =>
  Gj (fun (x2 : List Dq) (x3 : List Dq) =>
  Option.bind (Ir x3 p_by) (fun r4 =>
  Gj (fun (x8 : List Dq) =>
  Chk (decide (x8.length + x2.length < 1073741824)) (
  some ((x8 ++ x2),0))) (fun j5 =>
  Nm p_by j5 r4 0 r4))) (fun j2 =>
  Nl x1 j2 p_l 0 ([] : List Dq) ([] : List Dq))) (fun j1 =>
  Oe j1 p_v 0 ([] : List (ByteArray × Int)))))
def Wi (p_l : List Gq) (p_v : List Ii) : Option ((List Dq) × Int) :=
  Option.bind (Zx p_l p_v 1) (fun r1 =>
  some (r1.1,r1.2))
def Md (p_s_p : Iw) (p_s_deeds : List Dk) (p_race : ByteArray) (j1 : (List Ii) → (List Gq) → (List (ByteArray × ByteArray)) → Option ((List Dq) × (List (ByteArray × ByteArray)) × Int)) : List Dk → Nat → (List Ii) → (List Gq) → (List (ByteArray × ByteArray)) → Option ((List Dq) × (List (ByteArray × ByteArray)) × Int)
  | [],_,x1,x2,x3=>j1 x1 x2 x3
  | y1 :: ys1,i1,x1,x2,x3=>Gj (fun (x4 : List Ii) (x5 : List Gq) (x6 : List (ByteArray × ByteArray)) =>
  Md p_s_p p_s_deeds p_race j1 ys1 (i1 + 1) x4 x5 x6) (fun j2 =>
  if !((Qy (Hk p_s_p p_s_deeds p_race) y1.Who).isSome) then
  j2 x1 x2 x3
  else
  Chk (Rw x2.length) (
  Gj (fun (x7 : List Ii) =>
  j2 x7 (x2 ++ [(Gq.mk y1.Who ((Ea (Hk p_s_p p_s_deeds p_race) y1.Who (Dk.mk An 0 0 0 An An An 0 0 An 0)).Time))]) (Gl x3 y1.Who y1.Club)) (fun j3 =>
  if decide (0 < ((Ea (Hk p_s_p p_s_deeds p_race) y1.Who (Dk.mk An 0 0 0 An An An 0 0 An 0)).Fault)) then
  Chk (Rw x1.length) (
  j3 (x1 ++ [(Ii.mk y1.Who ((Ea (Hk p_s_p p_s_deeds p_race) y1.Who (Dk.mk An 0 0 0 An An An 0 0 An 0)).Fault) ([] : List ByteArray))]))
  else
  j3 x1)))
def Vr (p_s_p : Iw) (p_s_deeds : List Dk) (p_race : ByteArray) : Option ((List Dq) × (List (ByteArray × ByteArray)) × Int) :=
  Option.bind (Ox p_s_p p_s_deeds p_race) (fun r1 =>
  Gj (fun (x1 : List Ii) (x2 : List Gq) (x3 : List (ByteArray × ByteArray)) =>
  Option.bind (Wi x2 x1) (fun r2 =>
  some (r2.1,x3,r2.2))) (fun j1 =>
  Md p_s_p p_s_deeds p_race j1 r1 0 ([] : List Ii) ([] : List Gq) ([] : List (ByteArray × ByteArray))))
def Nc (p_a : Dm) (p_b : Dm) : Int :=
  if !decide ((decide (p_a.Rank = 0)) = (decide (p_b.Rank = 0))) then
  W (p_b.Rank - p_a.Rank)
  else
  if !decide (p_a.Rank = p_b.Rank) then
  W (p_a.Rank - p_b.Rank)
  else
  (Hp p_a.Who p_b.Who)
def Ei (p_a : Int) (j2 : (List Dm) → Option (List Dm)) : Nat → (List Dm) → Int → Option (List Dm)
  | 0,_,_=>none
  | m2 + 1,x3,x4=>Gj (fun (x5 : Bool) =>
  if x5 then
  Chk (inB (W (x4 - 1)) x3.length) (
  Chk (inB x4 x3.length) (
  Chk (inB x4 x3.length) (
  Chk (inB (W (x4 - 1)) (x3.set x4.toNat (nth x3 (W (x4 - 1)))).length) (
  Ei p_a j2 m2 ((x3.set x4.toNat (nth x3 (W (x4 - 1)))).set ((W (x4 - 1)).toNat) (nth x3 x4)) (W (x4 - 1))))))
  else
  j2 x3) (fun j3 =>
  if decide (p_a < x4) then
  Chk (inB x4 x3.length) (
  Chk (inB (W (x4 - 1)) x3.length) (
  j3 (decide ((Nc (nth x3 x4) (nth x3 (W (x4 - 1)))) < 0))))
  else
  j3 false)
def Ez (p_b : Int) (p_a : Int) (j1 : (List Dm) → Option (List Dm)) : Nat → (List Dm) → Int → Option (List Dm)
  | 0,_,_=>none
  | m1 + 1,x1,x2=>if decide (x2 < p_b) then
  Gj (fun (x3 : List Dm) =>
  Ez p_b p_a j1 m1 x3 (W (x2 + 1))) (fun j2 =>
  Ei p_a j2 ((x2 - p_a).toNat + 2) x1 x2)
  else
  j1 x1
def Hb (p_data : List Dm) (p_a : Int) (p_b : Int) : Option (List Dm) :=
  Gj (fun (x1 : List Dm) =>
  some x1) (fun j1 =>
  Ez p_b p_a j1 ((p_b - (W (p_a + 1))).toNat + 2) p_data (W (p_a + 1)))
def Fv (p_n : Int) (j1 : (List Dm) → Int → Option (List Dm)) : Nat → (List Dm) → Int → Int → Option (List Dm)
  | 0,_,_,_=>none
  | m1 + 1,x1,x2,x3=>if decide (x3 ≤ p_n) then
  Option.bind (Hb x1 x2 x3) (fun r1 =>
  Fv p_n j1 m1 r1 x3 (W (x3 + 20)))
  else
  j1 x1 x2
def Gv (p_n : Int) (j3 : Int → Option (List Dm)) : Nat → Int → Int → Option (List Dm)
  | 0,_,_=>none
  | _ + 1,x5,x6=>if decide (x6 ≤ p_n) then
  none
  else
  j3 x5
def Fw (p_n : Int) (j2 : Option (List Dm)) : Nat → Int → Option (List Dm)
  | 0,_=>none
  | m2 + 1,x4=>if decide (x4 < p_n) then
  Gj (fun (x5 : Int) =>
  if decide ((W (x5 + x4)) < p_n) then
  none
  else
  Fw p_n j2 m2 (W (x4 * 2))) (fun j3 =>
  Gv p_n j3 ((p_n - (W (2 * x4))).toNat + 2) 0 (W (2 * x4)))
  else
  j2
def Jk (p_data : List Dm) (p_n : Int) : Option (List Dm) :=
  Gj (fun (x1 : List Dm) (x2 : Int) =>
  Option.bind (Hb x1 x2 p_n) (fun r2 =>
  Gj (some r2) (fun j2 =>
  Fw p_n j2 ((p_n - 20).toNat + 2) 20))) (fun j1 =>
  Fv p_n j1 ((p_n - 20).toNat + 2) p_data 0 20)
def Gz (p_x : List Dm) : Option (List Dm) :=
  Option.bind (Jk p_x (p_x.length : Int)) (fun r1 =>
  some r1)
def Le (p_a : Int) (p_b : Int) : Int :=
  Gj (fun (x1 : Int) =>
  Gj (fun (x2 : Int) =>
  W (x1 - x2)) (fun j2 =>
  if decide (p_b = 0) then
  j2 301
  else
  j2 p_b)) (fun j1 =>
  if decide (p_a = 0) then
  j1 301
  else
  j1 p_a)
def Rz (p_a : Dm) (p_b : Dm) : Int :=
  (Tl [(Hp p_a.Race p_b.Race),(Le p_a.Rank p_b.Rank),(Hp p_a.Who p_b.Who)])
def Na (p_l : List Dm) (x2 : Int) (j2 : Int → Option (List (List Dm))) : Nat → Int → Option (List (List Dm))
  | 0,_=>none
  | m2 + 1,x3=>Gj (fun (c1 : Bool) =>
  if c1 then
  Na p_l x2 j2 m2 (W (x3 + 1))
  else
  j2 x3) (fun j3 =>
  if (decide (x3 < (p_l.length : Int))) then Chk (inB x3 p_l.length) (
  Chk (inB x2 p_l.length) (
  j3 ((decide (x3 < (p_l.length : Int))) && (decide (((nth p_l x3).Race) = ((nth p_l x2).Race)))))) else j3 ((decide (x3 < (p_l.length : Int))) && true))
def Lf (p_l : List Dm) (j1 : (List (List Dm)) → Option (List (List Dm))) : Nat → (List (List Dm)) → Int → Option (List (List Dm))
  | 0,_,_=>none
  | m1 + 1,x1,x2=>if decide (x2 < (p_l.length : Int)) then
  Gj (fun (x3 : Int) =>
  Chk (CR x2 x3 p_l.length) (
  Chk (Rw x1.length) (
  Lf p_l j1 m1 (x1 ++ [cut p_l x2 x3]) x3))) (fun j2 =>
  Na p_l x2 j2 (((p_l.length : Int) - (W (x2 + 1))).toNat + 2) (W (x2 + 1)))
  else
  j1 x1
def Sh (p_l : List Dm) : Option (List (List Dm)) :=
  Gj (fun (x1 : List (List Dm)) =>
  some x1) (fun j1 =>
  Lf p_l j1 (((p_l.length : Int) - 0).toNat + 2) ([] : List (List Dm)) 0)
def Si (p_x : Dm) (p_a1 : List Dm) : Option Bool :=
  Chk (inB 0 p_a1.length) (
  some (!decide (p_x.Relay = ((nth p_a1 0).Relay))))
def Fk (p_f_0 : List Dm) (j1 : Option Int) : List Dm → Nat → Option Int
  | [],_=>j1
  | y1 :: ys1,i1=>Option.bind (Si y1 p_f_0) (fun r1 =>
  if r1 then
  some (i1 : Int)
  else
  Fk p_f_0 j1 ys1 (i1 + 1))
def Jv (p_s : List Dm) (p_f_0 : List Dm) : Option Int :=
  Gj (some (-1)) (fun j1 =>
  Fk p_f_0 j1 p_s 0)
def Jg (p_s : List Dm) (p_f_0 : List Dm) : Option Bool :=
  Option.bind (Jv p_s p_f_0) (fun r1 =>
  some (decide (0 ≤ r1)))
def Ky (j1 : (List (Fh × Bool)) → Option Int) : List Dm → Nat → (List (Fh × Bool)) → Option Int
  | [],_,x1=>j1 x1
  | y1 :: ys1,i1,x1=>if Ea x1 (Fh.mk y1.Race y1.Who) false then
  some 6
  else
  Ky j1 ys1 (i1 + 1) (Gl x1 (Fh.mk y1.Race y1.Who) true)
def Ke (j2 : Option Int) : List (List Dm) → Nat → Option Int
  | [],_=>j2
  | y2 :: ys2,i2=>Option.bind (Jg y2 y2) (fun r3 =>
  if r3 then
  some 3
  else
  Ke j2 ys2 (i2 + 1))
def Kz (y3 : (List Dm)) (j4 : Option Int) : List Dm → Nat → Option Int
  | [],_=>j4
  | y4 :: ys4,i4=>Gj (fun (c1 : Bool) =>
  if c1 then
  some 16
  else
  Kz y3 j4 ys4 (i4 + 1)) (fun j5 =>
  if ((decide (0 < y4.Rank)) && (!decide (y4.Rank = (W ((i4 : Int) + 1))))) then Gj (fun (c2 : Bool) =>
  j5 (((decide (0 < y4.Rank)) && (!decide (y4.Rank = (W ((i4 : Int) + 1))))) && c2)) (fun j6 =>
  if (decide ((i4 : Int) = 0)) then j6 ((decide ((i4 : Int) = 0)) || true) else Chk (inB (W ((i4 : Int) - 1)) y3.length) (
  j6 ((decide ((i4 : Int) = 0)) || (!decide (y4.Rank = ((nth y3 (W ((i4 : Int) - 1))).Rank)))))) else j5 (((decide (0 < y4.Rank)) && (!decide (y4.Rank = (W ((i4 : Int) + 1))))) && true))
def Jo (j3 : Option Int) : List (List Dm) → Nat → Option Int
  | [],_=>j3
  | y3 :: ys3,i3=>Gj (Jo j3 ys3 (i3 + 1)) (fun j4 =>
  Kz y3 j4 y3 0)
def Mb (y5 : (List Dm)) (j8 : Option Int) : Nat → Int → Option Int
  | 0,_=>none
  | m1 + 1,x2=>if decide (x2 < (y5.length : Int)) then
  Chk (inB x2 y5.length) (
  Gj (fun (c3 : Bool) =>
  if c3 then
  some 12
  else
  Mb y5 j8 m1 (W (x2 + 1))) (fun j9 =>
  if (decide (0 < ((nth y5 x2).Rank))) then Chk (inB x2 y5.length) (
  Chk (inB (W (x2 - 10)) y5.length) (
  j9 ((decide (0 < ((nth y5 x2).Rank))) && (decide (((nth y5 x2).Rank) = ((nth y5 (W (x2 - 10))).Rank)))))) else j9 ((decide (0 < ((nth y5 x2).Rank))) && true)))
  else
  j8
def Kf (j7 : Option Int) : List (List Dm) → Nat → Option Int
  | [],_=>j7
  | y5 :: ys5,i5=>Gj (Kf j7 ys5 (i5 + 1)) (fun j8 =>
  Mb y5 j8 (((y5.length : Int) - 10).toNat + 2) 10)
def Qx (p_l : List Dm) : Option Int :=
  Gj (fun (x1 : List (Fh × Bool)) =>
  Option.bind (Sh p_l) (fun r1 =>
  Gj (Gj (Gj (some 0) (fun j7 =>
  Kf j7 r1 0)) (fun j3 =>
  Jo j3 r1 0)) (fun j2 =>
  Ke j2 r1 0))) (fun j1 =>
  Ky j1 p_l 0 ([] : List (Fh × Bool)))
def Jm (p_l : List Dm) (j1 : Option Int) : List Dm → Nat → Option Int
  | [],_=>j1
  | y1 :: ys1,i1=>Option.bind (Gf y1.Race) (fun r1 =>
  Gj (fun (c1 : Bool) =>
  Gj (fun (c2 : Bool) =>
  if c2 then
  some 5
  else
  if !(Dv y1.Rank 0 300) then
  some 1
  else
  Gj (fun (x1 : Bool) =>
  if x1 then
  some 7
  else
  Jm p_l j1 ys1 (i1 + 1)) (fun j5 =>
  if decide (0 < (i1 : Int)) then
  Chk (inB (W ((i1 : Int) - 1)) p_l.length) (
  j5 (decide (0 ≤ (Rz (nth p_l (W ((i1 : Int) - 1))) y1))))
  else
  j5 false)) (fun j3 =>
  if c1 then j3 (c1 || true) else Gj (fun (c3 : Bool) =>
  j3 (c1 || c3)) (fun j4 =>
  if (!decide (y1.Club = An)) then Option.bind (Gf y1.Club) (fun r3 =>
  j4 ((!decide (y1.Club = An)) && (!r3))) else j4 ((!decide (y1.Club = An)) && true)))) (fun j2 =>
  if (!r1) then j2 ((!r1) || true) else Option.bind (Gf y1.Who) (fun r2 =>
  j2 ((!r1) || (!r2)))))
def Ql (p_l : List Dm) : Option Int :=
  if decide (2000 < (p_l.length : Int)) then
  some 2
  else
  Gj (Option.bind (Qx p_l) (fun r4 =>
  some r4)) (fun j1 =>
  Jm p_l j1 p_l 0)
def Sa (p_t : Kr) (p_l : List Dm) : Option Int :=
  Option.bind (Oj p_t) (fun r1 =>
  if !decide (r1 = 0) then
  some r1
  else
  Option.bind (Ql p_l) (fun r2 =>
  some r2))
def Kt : Em :=
  (Em.mk 0 1)
def Lv (j1 : Int → Option Em) : Nat → Int → Int → Option Em
  | 0,_,_=>none
  | m1 + 1,x1,x2=>if decide (0 < x1) then
  Chk (!decide (x1 = 0)) (
  Lv j1 m1 (Int.tmod x2 x1) x1)
  else
  j1 x2
def Qm (p_a : Int) (p_b : Int) : Option Em :=
  Gj (fun (x2 : Int) =>
  Chk (!decide (x2 = 0)) (
  Chk (!decide (x2 = 0)) (
  some (Em.mk (W (Int.tdiv p_a x2)) (W (Int.tdiv p_b x2)))))) (fun j1 =>
  Lv j1 ((p_a - 0).toNat + 2) p_a p_b)
def Ku (p_t : Kr) (j1 : (List (ByteArray × Int)) → (List Int) → (List Ds) → Option (List Ds)) : List Dm → Nat → (List (ByteArray × Int)) → (List Int) → (List Ds) → Option (List Ds)
  | [],_,x1,x2,x3=>j1 x1 x2 x3
  | y1 :: ys1,i1,x1,x2,x3=>Gj (fun (x4 : List (ByteArray × Int)) (x5 : List Int) (x6 : List Ds) =>
  Ku p_t j1 ys1 (i1 + 1) x4 x5 x6) (fun j2 =>
  if ((decide (y1.Rank = 0)) || (decide (y1.Club = An))) then
  j2 x1 x2 x3
  else
  Gj (fun (x7 : List Int) =>
  Chk (Rw x3.length) (
  j2 (Gl x1 y1.Club (W ((Ea x1 y1.Club 0) + 1))) x7 (x3 ++ [(Ds.mk y1 Kt)]))) (fun j3 =>
  if ((decide (p_t.Most = 0)) || (decide ((Ea (Gl x1 y1.Club (W ((Ea x1 y1.Club 0) + 1))) y1.Club 0) ≤ p_t.Most))) then
  Chk (Rw x2.length) (
  j3 (x2 ++ [(x3.length : Int)]))
  else
  j3 x2))
def Jt (p_t : Kr) (x2 : List Int) (x8 : List Ds) (x9 : Int) (j5 : Int → Int → Option (List Ds)) : Nat → Int → Int → Option (List Ds)
  | 0,_,_=>none
  | m2 + 1,x10,x11=>Gj (fun (c1 : Bool) =>
  if c1 then
  Gj (fun (x12 : Int) =>
  Jt p_t x2 x8 x9 j5 m2 (W (x10 + 1)) x12) (fun j7 =>
  Gj (fun (x13 : Int) =>
  j7 x13) (fun j8 =>
  if decide (x10 < (p_t.Points.length : Int)) then
  Chk (inB x10 p_t.Points.length) (
  j8 (W (x11 + (nth p_t.Points x10))))
  else
  j8 x11))
  else
  j5 x10 x11) (fun j6 =>
  if (decide (x10 < (x2.length : Int))) then Chk (inB x10 x2.length) (
  Chk (inB (nth x2 x10) x8.length) (
  Chk (inB x9 x2.length) (
  Chk (inB (nth x2 x9) x8.length) (
  j6 ((decide (x10 < (x2.length : Int))) && (decide ((((nth x8 (nth x2 x10)).x_).Rank) = (((nth x8 (nth x2 x9)).x_).Rank)))))))) else j6 ((decide (x10 < (x2.length : Int))) && true))
def Ju (x10 : Int) (x9 : Int) (x14 : Int) (x2 : List Int) (j10 : (List Ds) → Option (List Ds)) : Nat → (List Ds) → Int → Option (List Ds)
  | 0,_,_=>none
  | m3 + 1,x15,x16=>if decide (x16 < ((x10.toNat - x9.toNat : Nat) : Int)) then
  Chk (inB x16 (x10.toNat - x9.toNat)) (
  Option.bind (Qm x14 (W (x10 - x9))) (fun r1 =>
  Chk (inB (nth (cut x2 x9 x10) x16) x15.length) (
  Ju x10 x9 x14 x2 j10 m3 (x15.set ((nth (cut x2 x9 x10) x16).toNat) (Ds.mk ((nth x15 (nth (cut x2 x9 x10) x16)).x_) r1)) (W (x16 + 1)))))
  else
  j10 x15
def Ix (x2 : List Int) (p_l : List Dm) (p_t : Kr) (j4 : (List Ds) → Option (List Ds)) : Nat → (List Ds) → Int → Option (List Ds)
  | 0,_,_=>none
  | m1 + 1,x8,x9=>if decide (x9 < (x2.length : Int)) then
  Gj (fun (x10 : Int) (x11 : Int) =>
  Chk (inB 0 p_l.length) (
  Gj (fun (x14 : Int) =>
  Chk (CR x9 x10 x2.length) (
  Gj (fun (x15 : List Ds) =>
  Ix x2 p_l p_t j4 m1 x15 x10) (fun j10 =>
  Ju x10 x9 x14 x2 j10 ((((x10.toNat - x9.toNat : Nat) : Int) - 0).toNat + 2) x8 0))) (fun j9 =>
  if (nth p_l 0).Relay then
  j9 (W (x11 * p_t.Relay))
  else
  j9 x11))) (fun j5 =>
  Jt p_t x2 x8 x9 j5 (((x2.length : Int) - x9).toNat + 2) x9 0)
  else
  j4 x8
def Tm (p_t : Kr) (p_l : List Dm) : Option (List Ds) :=
  Gj (fun (x1 : List (ByteArray × Int)) (x2 : List Int) (x3 : List Ds) =>
  Gj (fun (x8 : List Ds) =>
  some x8) (fun j4 =>
  Ix x2 p_l p_t j4 (((x2.length : Int) - 0).toNat + 2) x3 0)) (fun j1 =>
  Ku p_t j1 p_l 0 ([] : List (ByteArray × Int)) ([] : List Int) ([] : List Ds))
def Me (p_t : Kr) (j1 : (List Ds) → Option (List Ds)) : List (List Dm) → Nat → (List Ds) → Option (List Ds)
  | [],_,x1=>j1 x1
  | y1 :: ys1,i1,x1=>Option.bind (Tm p_t y1) (fun r3 =>
  Chk (decide (x1.length + r3.length < 1073741824)) (
  Me p_t j1 ys1 (i1 + 1) (x1 ++ r3)))
def Pe (p_t : Kr) (p_l : List Dm) : Option (List Ds) :=
  Option.bind (Sh p_l) (fun r1 =>
  Gj (fun (x1 : List Ds) =>
  some x1) (fun j1 =>
  Me p_t j1 r1 0 ([] : List Ds)))
def Mf (j1 : (List Km) → Option ((List Km) × Int)) : List Ds → Nat → (List Km) → Option ((List Km) × Int)
  | [],_,x1=>j1 x1
  | y1 :: ys1,i1,x1=>Chk (decide (y1.x_.Race.size + Oh.size < 1073741824)) (
  Chk (decide ((y1.x_.Race ++ Oh).size + y1.x_.Who.size < 1073741824)) (
  Chk (Rw x1.length) (
  Mf j1 ys1 (i1 + 1) (x1 ++ [(Km.mk ((y1.x_.Race ++ Oh) ++ y1.x_.Who) y1.points_)]))))
def Tw (p_t : Kr) (p_l : List Dm) : Option ((List Km) × Int) :=
  Option.bind (Sa p_t p_l) (fun r1 =>
  if !decide (r1 = 0) then
  some (([] : List Km),r1)
  else
  Option.bind (Pe p_t p_l) (fun r2 =>
  Gj (fun (x1 : List Km) =>
  some (x1,0)) (fun j1 =>
  Mf j1 r2 0 ([] : List Km))))
def Ln (p_r : Dy) (r1 : (List Dq) × (List (ByteArray × ByteArray)) × Int) (j1 : (List Dm) → Option ((List Ic) × Int)) : List Dq → Nat → (List Dm) → Option ((List Ic) × Int)
  | [],_,x1=>j1 x1
  | y1 :: ys1,i1,x1=>Chk (Rw x1.length) (
  Ln p_r r1 j1 ys1 (i1 + 1) (x1 ++ [(Dm.mk p_r.Key y1.Who (Ea r1.2.1 y1.Who An) y1.Rank (decide (1 < p_r.Legs)))]))
def Mk (j2 : (List (ByteArray × Em)) → Option ((List Ic) × Int)) : List Km → Nat → (List (ByteArray × Em)) → Option ((List Ic) × Int)
  | [],_,x2=>j2 x2
  | y2 :: ys2,i2,x2=>Mk j2 ys2 (i2 + 1) (Gl x2 y2.Key y2.Points)
def Lo (p_r : Dy) (r1 : (List Dq) × (List (ByteArray × ByteArray)) × Int) (x2 : List (ByteArray × Em)) (j3 : (List Ic) → Option ((List Ic) × Int)) : List Dq → Nat → (List Ic) → Option ((List Ic) × Int)
  | [],_,x3=>j3 x3
  | y3 :: ys3,i3,x3=>Chk (decide (p_r.Key.size + Oh.size < 1073741824)) (
  Chk (decide ((p_r.Key ++ Oh).size + y3.Who.size < 1073741824)) (
  Gj (fun (x4 : Int) (x5 : Int) =>
  Chk (Rw x3.length) (
  Lo p_r r1 x2 j3 ys3 (i3 + 1) (x3 ++ [(Ic.mk y3.Rank y3.Who (Ea r1.2.1 y3.Who An) y3.Time y3.Fault (Em.mk x4 x5))]))) (fun j4 =>
  if !((Qy x2 ((p_r.Key ++ Oh) ++ y3.Who)).isSome) then
  j4 0 1
  else
  j4 ((Ea x2 ((p_r.Key ++ Oh) ++ y3.Who) (Em.mk 0 0)).Num) ((Ea x2 ((p_r.Key ++ Oh) ++ y3.Who) (Em.mk 0 0)).Den))))
def Pw (p_s_p : Iw) (p_s_deeds : List Dk) (p_r : Dy) : Option ((List Ic) × Int) :=
  Option.bind (Vr p_s_p p_s_deeds p_r.Key) (fun r1 =>
  if !decide (r1.2.2 = 0) then
  some (([] : List Ic),r1.2.2)
  else
  Gj (fun (x1 : List Dm) =>
  Option.bind (Gz x1) (fun r2 =>
  Option.bind (Tw p_s_p.Table r2) (fun r3 =>
  if !decide (r3.2 = 0) then
  some (([] : List Ic),r3.2)
  else
  Gj (fun (x2 : List (ByteArray × Em)) =>
  Gj (fun (x3 : List Ic) =>
  some (x3,0)) (fun j3 =>
  Lo p_r r1 x2 j3 r1.1 0 ([] : List Ic))) (fun j2 =>
  Mk j2 r3.1 0 ([] : List (ByteArray × Em)))))) (fun j1 =>
  Ln p_r r1 j1 r1.1 0 ([] : List Dm)))
def Vs (p_p : Iw) (p_l : List Dk) (p_race : ByteArray) (p_at : Int) : Option ((List Ic) × Int) :=
  Option.bind (Zc p_p p_l p_race p_at) (fun r1 =>
  if !decide (r1.2.2 = 0) then
  some (([] : List Ic),r1.2.2)
  else
  Option.bind (r1.1) (fun r2 =>
  Option.bind (Pw r2.p_ r2.deeds_ r1.2.1) (fun r3 =>
  some (r3.1,r3.2))))
def Nh (j1 : Int) : List Int → Nat → Int
  | [],_=>j1
  | y1 :: ys1,i1=>if !decide (y1 = 0) then
  y1
  else
  Nh j1 ys1 (i1 + 1)
def Lp (p_l : List Int) : Int :=
  Gj (0) (fun j1 =>
  Nh j1 p_l 0)
def Mp (p_z : Gq) (p_a1 : Ic) : Bool :=
  decide (p_z.Who = p_a1.Who)
def Ek (p_f_0 : Ic) (j1 : Int) : List Gq → Nat → Int
  | [],_=>j1
  | y1 :: ys1,i1=>if (Mp y1 p_f_0) then
  (i1 : Int)
  else
  Ek p_f_0 j1 ys1 (i1 + 1)
def Ih (p_s : List Gq) (p_f_0 : Ic) : Int :=
  Gj ((-1)) (fun j1 =>
  Ek p_f_0 j1 p_s 0)
def Ef (p_s : List Gq) (p_f_0 : Ic) : Bool :=
  decide (0 ≤ (Ih p_s p_f_0))
def Xn (p_year : Int) : Bool :=
  ((decide ((Int.tmod p_year 4) = 0)) && ((!decide ((Int.tmod p_year 100) = 0)) || (decide ((Int.tmod p_year 400) = 0))))
def Nr (p_year : Int) (p_month : Int) : Int :=
  if decide (p_month = 2) then
  if (Xn p_year) then
  29
  else
  28
  else
  Gj (fun (x1 : Bool) =>
  if x1 then
  30
  else
  31) (fun j1 =>
  if decide (p_month = 4) then
  j1 (decide (p_month = 4))
  else
  Gj (fun (x2 : Bool) =>
  j1 x2) (fun j2 =>
  if decide (p_month = 6) then
  j2 (decide (p_month = 6))
  else
  Gj (fun (x3 : Bool) =>
  j2 x3) (fun j3 =>
  if decide (p_month = 9) then
  j3 (decide (p_month = 9))
  else
  j3 (decide (p_month = 11)))))
def Qb (p_year : Int) : Int :=
  if (Xn p_year) then
  366
  else
  365
def Yw (p_n : Int) : Bool :=
  (Dv p_n (-40000) 4000)
def Ny (p_d : Mt) (j2 : Int → Option (Int × Int)) : Nat → Int → Int → Option (Int × Int)
  | 0,_,_=>none
  | m1 + 1,x2,x3=>if decide (x3 < p_d.Month) then
  Ny p_d j2 m1 (W (x2 + (Nr p_d.Year x3))) (W (x3 + 1))
  else
  j2 x2
def Nz (p_d : Mt) (j3 : Int → Option (Int × Int)) : Nat → Int → Int → Option (Int × Int)
  | 0,_,_=>none
  | m2 + 1,x4,x5=>if decide (x5 < p_d.Year) then
  Nz p_d j3 m2 (W (x4 + (Qb x5))) (W (x5 + 1))
  else
  j3 x4
def Oa (j4 : Int → Option (Int × Int)) : Nat → Int → Int → Option (Int × Int)
  | 0,_,_=>none
  | m3 + 1,x6,x7=>if decide (x7 < 2024) then
  Oa j4 m3 (W (x6 - (Qb x7))) (W (x7 + 1))
  else
  j4 x6
def Yx (p_d : Mt) : Option (Int × Int) :=
  Gj (fun (x1 : Bool) =>
  if x1 then
  some (0,1)
  else
  Gj (fun (x2 : Int) =>
  Gj (fun (x4 : Int) =>
  Gj (fun (x6 : Int) =>
  if !(Yw x6) then
  some (0,1)
  else
  some (x6,0)) (fun j4 =>
  Oa j4 ((2024 - p_d.Year).toNat + 2) x4 p_d.Year)) (fun j3 =>
  Nz p_d j3 ((p_d.Year - 2024).toNat + 2) x2 2024)) (fun j2 =>
  Ny p_d j2 ((p_d.Month - 1).toNat + 2) (W (p_d.Day - 1)) 1)) (fun j1 =>
  if !(Dv p_d.Year 1900 2100) then
  if true then
  j1 true
  else
  j1 (!(Dv p_d.Day 1 (Nr p_d.Year p_d.Month)))
  else
  if !(Dv p_d.Month 1 12) then
  j1 true
  else
  j1 (!(Dv p_d.Day 1 (Nr p_d.Year p_d.Month))))
def Lc (j1 : (List (ByteArray × Bool)) → Option Int) : List Ns → Nat → (List (ByteArray × Bool)) → Option Int
  | [],_,x1=>j1 x1
  | y1 :: ys1,i1,x1=>Option.bind (Gf y1.Key) (fun r1 =>
  if !r1 then
  some 5
  else
  if Ea x1 y1.Key false then
  some 6
  else
  if ((((!(Dv y1.Heats 1 60)) || (!(Dv y1.Long 1 3600000))) || (!(Dv y1.Gap 0 3600000))) || (!(Dv y1.Break 0 3600000))) then
  some 1
  else
  Lc j1 ys1 (i1 + 1) (Gl x1 y1.Key true))
def Uw (p_l : List Ns) : Option Int :=
  if decide (100 < (p_l.length : Int)) then
  some 2
  else
  Gj (fun (x1 : List (ByteArray × Bool)) =>
  some 0) (fun j1 =>
  Lc j1 p_l 0 ([] : List (ByteArray × Bool)))
def Lx (y1 : Ns) (j2 : (List Ks) → Int → Option (List Ks)) : Nat → (List Ks) → Int → Int → Option (List Ks)
  | 0,_,_,_=>none
  | m1 + 1,x3,x4,x5=>if decide (x5 ≤ y1.Heats) then
  Gj (fun (x6 : List Ks) (x7 : Int) =>
  Lx y1 j2 m1 x6 x7 (W (x5 + 1))) (fun j3 =>
  Chk (Rw x3.length) (
  Gj (fun (x8 : Int) =>
  j3 (x3 ++ [(Ks.mk y1.Key x5 (Tu.mk x4 (W (x4 + y1.Long))))]) x8) (fun j4 =>
  if decide (x5 < y1.Heats) then
  j4 (W ((W (x4 + y1.Long)) + y1.Gap))
  else
  j4 (W (x4 + y1.Long)))))
  else
  j2 x3 x4
def Ly (j1 : (List Ks) → Option (List Ks)) : List Ns → Nat → (List Ks) → Int → Option (List Ks)
  | [],_,x1,_=>j1 x1
  | y1 :: ys1,i1,x1,x2=>Gj (fun (x3 : List Ks) (x4 : Int) =>
  Ly j1 ys1 (i1 + 1) x3 (W (x4 + y1.Break))) (fun j2 =>
  Lx y1 j2 ((y1.Heats - 1).toNat + 2) x1 x2 1)
def Vt (p_l : List Ns) (p_from : Int) : Option (List Ks) :=
  Gj (fun (x1 : List Ks) =>
  some x1) (fun j1 =>
  Ly j1 p_l 0 ([] : List Ks) p_from)
def Yq (p_l : List Ks) (p_from : Int) : Option Int :=
  if decide ((p_l.length : Int) = 0) then
  some p_from
  else
  Chk (inB (W ((p_l.length : Int) - 1)) p_l.length) (
  some (((nth p_l (W ((p_l.length : Int) - 1))).Time).To))
def Yy (p_l : List Ns) (p_from : Int) : Option ((List Ks) × Int) :=
  if !(Hz p_from) then
  some (([] : List Ks),1)
  else
  Option.bind (Vt p_l p_from) (fun r1 =>
  Option.bind (Yq r1 p_from) (fun r2 =>
  if decide (345686400000 < r2) then
  some (([] : List Ks),1)
  else
  some (r1,0)))
def Vv (p_l : List Ns) (p_from : Int) : Option ((List Ks) × Int) :=
  Option.bind (Uw p_l) (fun r1 =>
  if !decide (r1 = 0) then
  some (([] : List Ks),r1)
  else
  Option.bind (Yy p_l p_from) (fun r2 =>
  some (r2.1,r2.2)))
def Zy (p_l : List Ns) (p_from : Int) : Option (Int × Int) :=
  Option.bind (Vv p_l p_from) (fun r1 =>
  if !decide (r1.2 = 0) then
  some (0,r1.2)
  else
  Option.bind (Yq r1.1 p_from) (fun r2 =>
  some (r2,0)))
def Rj (p_n : Int) : Bool :=
  (Dv p_n 1 360000)
def Ml (p_l : List Rp) (j1 : Option Int) : List Rp → Nat → Option Int
  | [],_=>j1
  | y1 :: ys1,i1=>Option.bind (Gf y1.Race) (fun r1 =>
  if !r1 then
  some 5
  else
  Gj (fun (c1 : Bool) =>
  if c1 then
  some 7
  else
  if !(Rj y1.Time) then
  some 1
  else
  Ml p_l j1 ys1 (i1 + 1)) (fun j2 =>
  if (decide (0 < (i1 : Int))) then Chk (inB (W ((i1 : Int) - 1)) p_l.length) (
  j2 ((decide (0 < (i1 : Int))) && (EE y1.Race ((nth p_l (W ((i1 : Int) - 1))).Race) || decide (y1.Race = ((nth p_l (W ((i1 : Int) - 1))).Race))))) else j2 ((decide (0 < (i1 : Int))) && true)))
def Wj (p_l : List Rp) : Option Int :=
  if decide (500 < (p_l.length : Int)) then
  some 2
  else
  Gj (some 0) (fun j1 =>
  Ml p_l j1 p_l 0)
def Ob (p_race : ByteArray) (j1 : Int) : List Rp → Nat → Int
  | [],_=>j1
  | y1 :: ys1,i1=>if decide (y1.Race = p_race) then
  y1.Time
  else
  Ob p_race j1 ys1 (i1 + 1)
def Sv (p_l : List Rp) (p_race : ByteArray) : Int :=
  Gj (0) (fun j1 =>
  Ob p_race j1 p_l 0)
def Sj (p_x : Int) (p_y : Int) : (Int × Int) :=
  (IntKind.wrap .u64 ((IntKind.wrap .u64 ((IntKind.wrap .u64 ((Gr .u64 p_x 32) * (Gr .u64 p_y 32))) + (Gr .u64 (IntKind.wrap .u64 ((IntKind.wrap .u64 ((Gr .u64 p_x 32) * (Nt .u64 p_y 4294967295))) + (Gr .u64 (IntKind.wrap .u64 ((Nt .u64 p_x 4294967295) * (Nt .u64 p_y 4294967295))) 32))) 32))) + (Gr .u64 (IntKind.wrap .u64 ((Nt .u64 (IntKind.wrap .u64 ((IntKind.wrap .u64 ((Gr .u64 p_x 32) * (Nt .u64 p_y 4294967295))) + (Gr .u64 (IntKind.wrap .u64 ((Nt .u64 p_x 4294967295) * (Nt .u64 p_y 4294967295))) 32))) 4294967295) + (IntKind.wrap .u64 ((Nt .u64 p_x 4294967295) * (Gr .u64 p_y 32))))) 32)),IntKind.wrap .u64 (p_x * p_y))
def Ug (p_x : Int) : Option Int :=
  Option.bind (Zw p_x) (fun r1 =>
  some (W (64 - r1)))
def Px (p_lo : Int) (r1 : Int) (p_y : Int) (j1 : Int → Option (Int × Int)) : Nat → Int → Int → Option (Int × Int)
  | 0,_,_=>none
  | m1 + 1,x1,x2=>if ((decide (4294967296 ≤ x1)) || (decide ((IntKind.wrap .u64 ((IntKind.wrap .u64 (4294967296 * x2)) + (Gr .u64 (Fo .u64 p_lo (IntKind.wrap .u64 r1)) 32))) < (IntKind.wrap .u64 (x1 * (Nt .u64 (Fo .u64 p_y (IntKind.wrap .u64 r1)) 4294967295)))))) then
  if decide (4294967296 ≤ (IntKind.wrap .u64 (x2 + (Gr .u64 (Fo .u64 p_y (IntKind.wrap .u64 r1)) 32)))) then
  j1 (IntKind.wrap .u64 (x1 - 1))
  else
  Px p_lo r1 p_y j1 m1 (IntKind.wrap .u64 (x1 - 1)) (IntKind.wrap .u64 (x2 + (Gr .u64 (Fo .u64 p_y (IntKind.wrap .u64 r1)) 32)))
  else
  j1 x1
def Py (p_lo : Int) (r1 : Int) (p_y : Int) (j2 : Int → Option (Int × Int)) : Nat → Int → Int → Option (Int × Int)
  | 0,_,_=>none
  | m2 + 1,x3,x4=>if ((decide (4294967296 ≤ x4)) || (decide ((IntKind.wrap .u64 ((IntKind.wrap .u64 (4294967296 * x3)) + (Nt .u64 (Fo .u64 p_lo (IntKind.wrap .u64 r1)) 4294967295))) < (IntKind.wrap .u64 (x4 * (Nt .u64 (Fo .u64 p_y (IntKind.wrap .u64 r1)) 4294967295)))))) then
  if decide (4294967296 ≤ (IntKind.wrap .u64 (x3 + (Gr .u64 (Fo .u64 p_y (IntKind.wrap .u64 r1)) 32)))) then
  j2 (IntKind.wrap .u64 (x4 - 1))
  else
  Py p_lo r1 p_y j2 m2 (IntKind.wrap .u64 (x3 + (Gr .u64 (Fo .u64 p_y (IntKind.wrap .u64 r1)) 32))) (IntKind.wrap .u64 (x4 - 1))
  else
  j2 x4
def DO (p_hi : Int) (p_lo : Int) (p_y : Int) : Option (Int × Int) :=
  if decide (p_y = 0) then
  none
  else
  if decide (p_y ≤ p_hi) then
  none
  else
  if decide (p_hi = 0) then
  Chk (!decide (p_y = 0)) (
  Chk (!decide (p_y = 0)) (
  some (IntKind.wrap .u64 (Int.tdiv p_lo p_y),Int.tmod p_lo p_y)))
  else
  Option.bind (Ug p_y) (fun r1 =>
  Chk (decide (0 ≤ (IntKind.wrap .u64 r1))) (
  Chk (decide (0 ≤ (IntKind.wrap .u64 r1))) (
  Chk (decide (0 ≤ (IntKind.wrap .u64 (64 - (IntKind.wrap .u64 r1))))) (
  Chk (decide (0 ≤ (IntKind.wrap .u64 r1))) (
  Chk (!decide ((Gr .u64 (Fo .u64 p_y (IntKind.wrap .u64 r1)) 32) = 0)) (
  Gj (fun (x1 : Int) =>
  Chk (!decide ((Gr .u64 (Fo .u64 p_y (IntKind.wrap .u64 r1)) 32) = 0)) (
  Gj (fun (x4 : Int) =>
  Chk (decide (0 ≤ (IntKind.wrap .u64 r1))) (
  some (IntKind.wrap .u64 ((IntKind.wrap .u64 (x1 * 4294967296)) + x4),Gr .u64 (IntKind.wrap .u64 ((IntKind.wrap .u64 ((IntKind.wrap .u64 ((IntKind.wrap .u64 ((IntKind.wrap .u64 ((IntKind.wrap .u64 ((Sl .u64 (Fo .u64 p_hi (IntKind.wrap .u64 r1)) (Gr .u64 p_lo (IntKind.wrap .u64 (64 - (IntKind.wrap .u64 r1))))) * 4294967296)) + (Gr .u64 (Fo .u64 p_lo (IntKind.wrap .u64 r1)) 32))) - (IntKind.wrap .u64 (x1 * (Fo .u64 p_y (IntKind.wrap .u64 r1)))))) * 4294967296)) + (Nt .u64 (Fo .u64 p_lo (IntKind.wrap .u64 r1)) 4294967295))) - (IntKind.wrap .u64 (x4 * (Fo .u64 p_y (IntKind.wrap .u64 r1)))))) (IntKind.wrap .u64 r1)))) (fun j2 =>
  Py p_lo r1 p_y j2 (((IntKind.wrap .u64 (Int.tdiv (IntKind.wrap .u64 ((IntKind.wrap .u64 ((IntKind.wrap .u64 ((Sl .u64 (Fo .u64 p_hi (IntKind.wrap .u64 r1)) (Gr .u64 p_lo (IntKind.wrap .u64 (64 - (IntKind.wrap .u64 r1))))) * 4294967296)) + (Gr .u64 (Fo .u64 p_lo (IntKind.wrap .u64 r1)) 32))) - (IntKind.wrap .u64 (x1 * (Fo .u64 p_y (IntKind.wrap .u64 r1)))))) (Gr .u64 (Fo .u64 p_y (IntKind.wrap .u64 r1)) 32))) - 4294967296).toNat + 2) (IntKind.wrap .u64 ((IntKind.wrap .u64 ((IntKind.wrap .u64 ((IntKind.wrap .u64 ((Sl .u64 (Fo .u64 p_hi (IntKind.wrap .u64 r1)) (Gr .u64 p_lo (IntKind.wrap .u64 (64 - (IntKind.wrap .u64 r1))))) * 4294967296)) + (Gr .u64 (Fo .u64 p_lo (IntKind.wrap .u64 r1)) 32))) - (IntKind.wrap .u64 (x1 * (Fo .u64 p_y (IntKind.wrap .u64 r1)))))) - (IntKind.wrap .u64 ((IntKind.wrap .u64 (Int.tdiv (IntKind.wrap .u64 ((IntKind.wrap .u64 ((IntKind.wrap .u64 ((Sl .u64 (Fo .u64 p_hi (IntKind.wrap .u64 r1)) (Gr .u64 p_lo (IntKind.wrap .u64 (64 - (IntKind.wrap .u64 r1))))) * 4294967296)) + (Gr .u64 (Fo .u64 p_lo (IntKind.wrap .u64 r1)) 32))) - (IntKind.wrap .u64 (x1 * (Fo .u64 p_y (IntKind.wrap .u64 r1)))))) (Gr .u64 (Fo .u64 p_y (IntKind.wrap .u64 r1)) 32))) * (Gr .u64 (Fo .u64 p_y (IntKind.wrap .u64 r1)) 32))))) (IntKind.wrap .u64 (Int.tdiv (IntKind.wrap .u64 ((IntKind.wrap .u64 ((IntKind.wrap .u64 ((Sl .u64 (Fo .u64 p_hi (IntKind.wrap .u64 r1)) (Gr .u64 p_lo (IntKind.wrap .u64 (64 - (IntKind.wrap .u64 r1))))) * 4294967296)) + (Gr .u64 (Fo .u64 p_lo (IntKind.wrap .u64 r1)) 32))) - (IntKind.wrap .u64 (x1 * (Fo .u64 p_y (IntKind.wrap .u64 r1)))))) (Gr .u64 (Fo .u64 p_y (IntKind.wrap .u64 r1)) 32)))))) (fun j1 =>
  Px p_lo r1 p_y j1 (((IntKind.wrap .u64 (Int.tdiv (Sl .u64 (Fo .u64 p_hi (IntKind.wrap .u64 r1)) (Gr .u64 p_lo (IntKind.wrap .u64 (64 - (IntKind.wrap .u64 r1))))) (Gr .u64 (Fo .u64 p_y (IntKind.wrap .u64 r1)) 32))) - 4294967296).toNat + 2) (IntKind.wrap .u64 (Int.tdiv (Sl .u64 (Fo .u64 p_hi (IntKind.wrap .u64 r1)) (Gr .u64 p_lo (IntKind.wrap .u64 (64 - (IntKind.wrap .u64 r1))))) (Gr .u64 (Fo .u64 p_y (IntKind.wrap .u64 r1)) 32))) (IntKind.wrap .u64 ((Sl .u64 (Fo .u64 p_hi (IntKind.wrap .u64 r1)) (Gr .u64 p_lo (IntKind.wrap .u64 (64 - (IntKind.wrap .u64 r1))))) - (IntKind.wrap .u64 ((IntKind.wrap .u64 (Int.tdiv (Sl .u64 (Fo .u64 p_hi (IntKind.wrap .u64 r1)) (Gr .u64 p_lo (IntKind.wrap .u64 (64 - (IntKind.wrap .u64 r1))))) (Gr .u64 (Fo .u64 p_y (IntKind.wrap .u64 r1)) 32))) * (Gr .u64 (Fo .u64 p_y (IntKind.wrap .u64 r1)) 32))))))))))))
def Yz (p_base : Int) (p_time : Int) : Option Int :=
  if decide ((IntKind.wrap .u64 ((IntKind.wrap .u64 ((IntKind.wrap .u64 p_time) * (IntKind.wrap .u64 p_time))) * (IntKind.wrap .u64 p_time))) ≤ ((Sj (IntKind.wrap .u64 ((IntKind.wrap .u64 ((IntKind.wrap .u64 p_base) * (IntKind.wrap .u64 p_base))) * (IntKind.wrap .u64 p_base))) 1000).1)) then
  some 1000000000
  else
  Option.bind (DO ((Sj (IntKind.wrap .u64 ((IntKind.wrap .u64 ((IntKind.wrap .u64 p_base) * (IntKind.wrap .u64 p_base))) * (IntKind.wrap .u64 p_base))) 1000).1) ((Sj (IntKind.wrap .u64 ((IntKind.wrap .u64 ((IntKind.wrap .u64 p_base) * (IntKind.wrap .u64 p_base))) * (IntKind.wrap .u64 p_base))) 1000).2) (IntKind.wrap .u64 ((IntKind.wrap .u64 ((IntKind.wrap .u64 p_time) * (IntKind.wrap .u64 p_time))) * (IntKind.wrap .u64 p_time)))) (fun r1 =>
  some (W (imin r1.1 1000000000)))
def Za (p_l : List Rp) (p_race : ByteArray) (p_time : Int) : Option (Int × Int) :=
  Option.bind (Wj p_l) (fun r1 =>
  if !decide (r1 = 0) then
  some (0,r1)
  else
  if decide ((Sv p_l p_race) = 0) then
  some (0,8)
  else
  if !(Rj p_time) then
  some (0,1)
  else
  Option.bind (Yz (Sv p_l p_race) p_time) (fun r2 =>
  some (r2,0)))
def Lz (y1 : Uk) (j4 : Option Int) : List ByteArray → Nat → Option Int
  | [],_=>j4
  | y2 :: ys2,i2=>Option.bind (Gf y2) (fun r5 =>
  if !r5 then
  some 5
  else
  Gj (fun (c3 : Bool) =>
  if c3 then
  some 7
  else
  Lz y1 j4 ys2 (i2 + 1)) (fun j5 =>
  if (decide (0 < (i2 : Int))) then Chk (inB (W ((i2 : Int) - 1)) y1.Clubs.length) (
  j5 ((decide (0 < (i2 : Int))) && (EE y2 (nth y1.Clubs (W ((i2 : Int) - 1))) || decide (y2 = (nth y1.Clubs (W ((i2 : Int) - 1))))))) else j5 ((decide (0 < (i2 : Int))) && true)))
def Ma (p_l : List Uk) (j1 : Option Int) : List Uk → Nat → Option Int
  | [],_=>j1
  | y1 :: ys1,i1=>Option.bind (Gf y1.Key) (fun r2 =>
  Gj (fun (c1 : Bool) =>
  if c1 then
  some 5
  else
  Gj (fun (c2 : Bool) =>
  if c2 then
  some 7
  else
  if decide (100 < (y1.Clubs.length : Int)) then
  some 2
  else
  Gj (if (((decide (y1.Young < 0)) || (decide (y1.Old < y1.Young))) || (decide (150 < y1.Old))) then
  some 1
  else
  Ma p_l j1 ys1 (i1 + 1)) (fun j4 =>
  Lz y1 j4 y1.Clubs 0)) (fun j3 =>
  if (decide (0 < (i1 : Int))) then Chk (inB (W ((i1 : Int) - 1)) p_l.length) (
  j3 ((decide (0 < (i1 : Int))) && (EE y1.Key ((nth p_l (W ((i1 : Int) - 1))).Key) || decide (y1.Key = ((nth p_l (W ((i1 : Int) - 1))).Key))))) else j3 ((decide (0 < (i1 : Int))) && true))) (fun j2 =>
  if (!r2) then j2 ((!r2) || true) else Option.bind (Gf y1.Race) (fun r3 =>
  j2 ((!r2) || (!r3)))))
def Vw (p_l : List Uk) : Option Int :=
  if decide (50 < (p_l.length : Int)) then
  some 2
  else
  Gj (some 0) (fun j1 =>
  Ma p_l j1 p_l 0)
def Wk (p_x : Kk) : Option Int :=
  Gj (some 0) (fun j1 =>
  if !(Hz p_x.At) then
  some 1
  else
  if !(Dv p_x.Kind 1 3) then
  some 4
  else
  Option.bind (Gf p_x.Id) (fun r1 =>
  if !r1 then
  some 5
  else
  Gj (j1) (fun j2 =>
  if !decide (p_x.Kind = 1) then
  if !decide (p_x = (Kk.mk p_x.At p_x.Kind p_x.Id An An An 0 0)) then
  some 3
  else
  j2
  else
  Option.bind (Gf p_x.Who) (fun r2 =>
  Gj (fun (c1 : Bool) =>
  Gj (fun (c2 : Bool) =>
  if c2 then
  some 5
  else
  if ((!(Dv p_x.Age 0 150)) || (!(Rj p_x.Time))) then
  some 1
  else
  j2) (fun j4 =>
  if c1 then j4 (c1 || true) else Gj (fun (c3 : Bool) =>
  j4 (c1 || c3)) (fun j5 =>
  if (!decide (p_x.Club = An)) then Option.bind (Gf p_x.Club) (fun r4 =>
  j5 ((!decide (p_x.Club = An)) && (!r4))) else j5 ((!decide (p_x.Club = An)) && true)))) (fun j3 =>
  if (!r2) then j3 ((!r2) || true) else Option.bind (Gf p_x.Race) (fun r3 =>
  j3 ((!r2) || (!r3))))))))
def Wl (p_s : Kk) : Option Int :=
  Option.bind (Wk p_s) (fun r1 =>
  if !decide (r1 = 0) then
  some r1
  else
  if !decide (p_s.Kind = 1) then
  some 4
  else
  some 0)
def Kv (p_v : ByteArray) (j1 : Int) : List ByteArray → Nat → Int
  | [],_=>j1
  | y1 :: ys1,i1=>if decide (p_v = y1) then
  (i1 : Int)
  else
  Kv p_v j1 ys1 (i1 + 1)
def Uh (p_s : List ByteArray) (p_v : ByteArray) : Int :=
  Gj ((-1)) (fun j1 =>
  Kv p_v j1 p_s 0)
def Jw (p_s : List ByteArray) (p_v : ByteArray) : Bool :=
  decide (0 ≤ (Uh p_s p_v))
def Zz (p_k : Uk) (p_s : Kk) : Bool :=
  (((decide (p_s.Race = p_k.Race)) && ((decide ((p_k.Clubs.length : Int) = 0)) || (Jw p_k.Clubs p_s.Club))) && (Dv p_s.Age p_k.Young p_k.Old))
def Pz (p_s : Kk) (j1 : (List ByteArray) → Option ((List ByteArray) × Int)) : List Uk → Nat → (List ByteArray) → Option ((List ByteArray) × Int)
  | [],_,x1=>j1 x1
  | y1 :: ys1,i1,x1=>Gj (fun (x2 : List ByteArray) =>
  Pz p_s j1 ys1 (i1 + 1) x2) (fun j2 =>
  Gj (fun (x3 : List ByteArray) =>
  j2 x3) (fun j3 =>
  if (Zz y1 p_s) then
  Chk (Rw x1.length) (
  j3 (x1 ++ [y1.Key]))
  else
  j3 x1))
def DP (p_l : List Uk) (p_s : Kk) : Option ((List ByteArray) × Int) :=
  Option.bind (Vw p_l) (fun r1 =>
  if !decide (r1 = 0) then
  some (([] : List ByteArray),r1)
  else
  Option.bind (Wl p_s) (fun r2 =>
  if !decide (r2 = 0) then
  some (([] : List ByteArray),r2)
  else
  Gj (fun (x1 : List ByteArray) =>
  some (x1,0)) (fun j1 =>
  Pz p_s j1 p_l 0 ([] : List ByteArray))))
def Sp : Option Bool :=
  Option.bind (Yx (Mt.mk 2024 3 1)) (fun r1 =>
  Option.bind (Zy [(Ns.mk k_a 2 10 5 0)] 0) (fun r2 =>
  Option.bind (Za [(Rp.mk k_r 3000)] k_r 6000) (fun r3 =>
  Option.bind (DP ([(Uk.mk k_k k_r ([] : List ByteArray) 0 9)] : List Uk) (Kk.mk 0 1 k_i k_a An k_r 0 5)) (fun r4 =>
  some (((((decide ((Lp [r1.2,r2.2,r3.2,r4.2]) = 0)) && (decide (r1.1 = 60))) && (decide (r2.1 = 25))) && (decide (r3.1 = 125))) && (decide ((r4.1.length : Int) = 1)))))))
def Hf (r5 : (List Gq) × Int) (r6 : (List Ic) × Int) (j2 : Option Bool) : List Ic → Nat → Option Bool
  | [],_=>j2
  | y2 :: ys2,i2=>if (((!(Ef r5.1 y2)) || (!decide ((decide (0 < y2.Rank)) = ((decide (0 < y2.Time)) && (decide (y2.Fault = 0)))))) || ((decide (y2.Rank = 0)) && (!decide (y2.Points.Num = 0)))) then
  some false
  else
  Gj (fun (c1 : Bool) =>
  Gj (fun (c2 : Bool) =>
  if c2 then
  some false
  else
  Hf r5 r6 j2 ys2 (i2 + 1)) (fun j4 =>
  if (c1 && (decide (0 < y2.Rank))) then j4 ((c1 && (decide (0 < y2.Rank))) || true) else Gj (fun (c3 : Bool) =>
  j4 ((c1 && (decide (0 < y2.Rank))) || c3)) (fun j5 =>
  if ((decide (0 < (i2 : Int))) && (decide (0 < y2.Rank))) then Chk (inB (W ((i2 : Int) - 1)) r6.1.length) (
  Gj (fun (c4 : Bool) =>
  j5 (((decide (0 < (i2 : Int))) && (decide (0 < y2.Rank))) && c4)) (fun j6 =>
  if (decide (y2.Time < ((nth r6.1 (W ((i2 : Int) - 1))).Time))) then j6 ((decide (y2.Time < ((nth r6.1 (W ((i2 : Int) - 1))).Time))) || true) else Chk (inB (W ((i2 : Int) - 1)) r6.1.length) (
  Chk (inB (W ((i2 : Int) - 1)) r6.1.length) (
  j6 ((decide (y2.Time < ((nth r6.1 (W ((i2 : Int) - 1))).Time))) || (!decide ((decide (((nth r6.1 (W ((i2 : Int) - 1))).Time) = y2.Time)) = (decide (((nth r6.1 (W ((i2 : Int) - 1))).Rank) = y2.Rank))))))))) else j5 (((decide (0 < (i2 : Int))) && (decide (0 < y2.Rank))) && true)))) (fun j3 =>
  if (decide (0 < (i2 : Int))) then Chk (inB (W ((i2 : Int) - 1)) r6.1.length) (
  j3 ((decide (0 < (i2 : Int))) && (decide (((nth r6.1 (W ((i2 : Int) - 1))).Rank) = 0)))) else j3 ((decide (0 < (i2 : Int))) && true))
def Gk (r1 : Iw × Int) (r3 : (List Dk) × Int) (j1 : Int → Option Bool) : List Dy → Nat → Int → Option Bool
  | [],_,x1=>j1 x1
  | y1 :: ys1,i1,x1=>Option.bind (Vp r1.1 r3.1 y1.Key 60) (fun r5 =>
  Option.bind (Vs r1.1 r3.1 y1.Key 60) (fun r6 =>
  if !decide ((Lp [r5.2,r6.2]) = 0) then
  some false
  else
  Gj (Gk r1 r3 j1 ys1 (i1 + 1) (W (x1 + (W ((r5.1.length : Int) - (r6.1.length : Int)))))) (fun j2 =>
  Hf r5 r6 j2 r6.1 0)))
def Ni (p_l : List Int) : Option Bool :=
  Option.bind (Ry p_l 0) (fun r1 =>
  Option.bind (Nq p_l r1.2 0 16) (fun r2 =>
  Option.bind (Rd p_l r2.2 r2.1) (fun r3 =>
  Option.bind (Vo r1.1 r3.1 60) (fun r4 =>
  if !decide (r4.2 = 0) then
  some false
  else
  Gj (fun (x1 : Int) =>
  Gj (fun (c5 : Bool) =>
  some c5) (fun j7 =>
  if (decide (x1 = (r4.1.length : Int))) then Option.bind (Sp) (fun r7 =>
  j7 ((decide (x1 = (r4.1.length : Int))) && r7)) else j7 ((decide (x1 = (r4.1.length : Int))) && true))) (fun j1 =>
  Gk r1 r3 j1 r1.1.Races 0 0)))))
theorem twin_eqs : True:=by
  have h:=@Ki.eq_def; clear h; have h:=@Ki.eq_1; clear h; have h:=@Ki.eq_2; clear h
  have h:=@Jy.eq_def; clear h; have h:=@Jy.eq_1; clear h; have h:=@Jy.eq_2; clear h
  have h:=@Ja.eq_def; clear h; have h:=@Ja.eq_1; clear h; have h:=@Ja.eq_2; clear h
  have h:=@Eh.eq_def; clear h; have h:=@Eh.eq_1; clear h; have h:=@Eh.eq_2; clear h
  have h:=@Ey.eq_def; clear h; have h:=@Ey.eq_1; clear h; have h:=@Ey.eq_2; clear h
  have h:=@Ft.eq_def; clear h; have h:=@Ft.eq_1; clear h; have h:=@Ft.eq_2; clear h
  have h:=@Gu.eq_def; clear h; have h:=@Gu.eq_1; clear h; have h:=@Gu.eq_2; clear h
  have h:=@Fu.eq_def; clear h; have h:=@Fu.eq_1; clear h; have h:=@Fu.eq_2; clear h
  have h:=@Mz.eq_def; clear h; have h:=@Mz.eq_1; clear h; have h:=@Mz.eq_2; clear h
  have h:=@Li.eq_def; clear h; have h:=@Li.eq_1; clear h; have h:=@Li.eq_2; clear h
  have h:=@Ew.eq_def; clear h; have h:=@Ew.eq_1; clear h; have h:=@Ew.eq_2; clear h
  have h:=@Hy.eq_def; clear h; have h:=@Hy.eq_1; clear h; have h:=@Hy.eq_2; clear h
  have h:=@Ip.eq_def; clear h; have h:=@Ip.eq_1; clear h; have h:=@Ip.eq_2; clear h
  have h:=@Jz.eq_def; clear h; have h:=@Jz.eq_1; clear h; have h:=@Jz.eq_2; clear h
  have h:=@Fz.eq_def; clear h; have h:=@Fz.eq_1; clear h; have h:=@Fz.eq_2; clear h
  have h:=@Ka.eq_def; clear h; have h:=@Ka.eq_1; clear h; have h:=@Ka.eq_2; clear h
  have h:=@Lu.eq_def; clear h; have h:=@Lu.eq_1; clear h; have h:=@Lu.eq_2; clear h
  have h:=@Mi.eq_def; clear h; have h:=@Mi.eq_1; clear h; have h:=@Mi.eq_2; clear h
  have h:=@Ib.eq_def; clear h; have h:=@Ib.eq_1; clear h; have h:=@Ib.eq_2; clear h
  have h:=@Jl.eq_def; clear h; have h:=@Jl.eq_1; clear h; have h:=@Jl.eq_2; clear h
  have h:=@Ko.eq_def; clear h; have h:=@Ko.eq_1; clear h; have h:=@Ko.eq_2; clear h
  have h:=@Mc.eq_def; clear h; have h:=@Mc.eq_1; clear h; have h:=@Mc.eq_2; clear h
  have h:=@Ow.eq_def; clear h; have h:=@Ow.eq_1; clear h; have h:=@Ow.eq_2; clear h
  have h:=@Gg.eq_def; clear h; have h:=@Gg.eq_1; clear h; have h:=@Gg.eq_2; clear h
  have h:=@El.eq_def; clear h; have h:=@El.eq_1; clear h; have h:=@El.eq_2; clear h
  have h:=@Ff.eq_def; clear h; have h:=@Ff.eq_1; clear h; have h:=@Ff.eq_2; clear h
  have h:=@Gi.eq_def; clear h; have h:=@Gi.eq_1; clear h; have h:=@Gi.eq_2; clear h
  have h:=@Lk.eq_def; clear h; have h:=@Lk.eq_1; clear h; have h:=@Lk.eq_2; clear h
  have h:=@Mj.eq_def; clear h; have h:=@Mj.eq_1; clear h; have h:=@Mj.eq_2; clear h
  have h:=@Oy.eq_def; clear h; have h:=@Oy.eq_1; clear h; have h:=@Oy.eq_2; clear h
  have h:=@Od.eq_def; clear h; have h:=@Od.eq_1; clear h; have h:=@Od.eq_2; clear h
  have h:=@Ll.eq_def; clear h; have h:=@Ll.eq_1; clear h; have h:=@Ll.eq_2; clear h
  have h:=@Lm.eq_def; clear h; have h:=@Lm.eq_1; clear h; have h:=@Lm.eq_2; clear h
  have h:=@My.eq_def; clear h; have h:=@My.eq_1; clear h; have h:=@My.eq_2; clear h
  have h:=@Kx.eq_def; clear h; have h:=@Kx.eq_1; clear h; have h:=@Kx.eq_2; clear h
  have h:=@Jb.eq_def; clear h; have h:=@Jb.eq_1; clear h; have h:=@Jb.eq_2; clear h
  have h:=@En.eq_def; clear h; have h:=@En.eq_1; clear h; have h:=@En.eq_2; clear h
  have h:=@Fi.eq_def; clear h; have h:=@Fi.eq_1; clear h; have h:=@Fi.eq_2; clear h
  have h:=@Gd.eq_def; clear h; have h:=@Gd.eq_1; clear h; have h:=@Gd.eq_2; clear h
  have h:=@Hc.eq_def; clear h; have h:=@Hc.eq_1; clear h; have h:=@Hc.eq_2; clear h
  have h:=@Ge.eq_def; clear h; have h:=@Ge.eq_1; clear h; have h:=@Ge.eq_2; clear h
  have h:=@Oe.eq_def; clear h; have h:=@Oe.eq_1; clear h; have h:=@Oe.eq_2; clear h
  have h:=@Nl.eq_def; clear h; have h:=@Nl.eq_1; clear h; have h:=@Nl.eq_2; clear h
  have h:=@Nm.eq_def; clear h; have h:=@Nm.eq_1; clear h; have h:=@Nm.eq_2; clear h
  have h:=@Md.eq_def; clear h; have h:=@Md.eq_1; clear h; have h:=@Md.eq_2; clear h
  have h:=@Ei.eq_def; clear h; have h:=@Ei.eq_1; clear h; have h:=@Ei.eq_2; clear h
  have h:=@Ez.eq_def; clear h; have h:=@Ez.eq_1; clear h; have h:=@Ez.eq_2; clear h
  have h:=@Fv.eq_def; clear h; have h:=@Fv.eq_1; clear h; have h:=@Fv.eq_2; clear h
  have h:=@Gv.eq_def; clear h; have h:=@Gv.eq_1; clear h; have h:=@Gv.eq_2; clear h
  have h:=@Fw.eq_def; clear h; have h:=@Fw.eq_1; clear h; have h:=@Fw.eq_2; clear h
  have h:=@Na.eq_def; clear h; have h:=@Na.eq_1; clear h; have h:=@Na.eq_2; clear h
  have h:=@Lf.eq_def; clear h; have h:=@Lf.eq_1; clear h; have h:=@Lf.eq_2; clear h
  have h:=@Fk.eq_def; clear h; have h:=@Fk.eq_1; clear h; have h:=@Fk.eq_2; clear h
  have h:=@Ky.eq_def; clear h; have h:=@Ky.eq_1; clear h; have h:=@Ky.eq_2; clear h
  have h:=@Ke.eq_def; clear h; have h:=@Ke.eq_1; clear h; have h:=@Ke.eq_2; clear h
  have h:=@Kz.eq_def; clear h; have h:=@Kz.eq_1; clear h; have h:=@Kz.eq_2; clear h
  have h:=@Jo.eq_def; clear h; have h:=@Jo.eq_1; clear h; have h:=@Jo.eq_2; clear h
  have h:=@Mb.eq_def; clear h; have h:=@Mb.eq_1; clear h; have h:=@Mb.eq_2; clear h
  have h:=@Kf.eq_def; clear h; have h:=@Kf.eq_1; clear h; have h:=@Kf.eq_2; clear h
  have h:=@Jm.eq_def; clear h; have h:=@Jm.eq_1; clear h; have h:=@Jm.eq_2; clear h
  have h:=@Lv.eq_def; clear h; have h:=@Lv.eq_1; clear h; have h:=@Lv.eq_2; clear h
  have h:=@Ku.eq_def; clear h; have h:=@Ku.eq_1; clear h; have h:=@Ku.eq_2; clear h
  have h:=@Jt.eq_def; clear h; have h:=@Jt.eq_1; clear h; have h:=@Jt.eq_2; clear h
  have h:=@Ju.eq_def; clear h; have h:=@Ju.eq_1; clear h; have h:=@Ju.eq_2; clear h
  have h:=@Ix.eq_def; clear h; have h:=@Ix.eq_1; clear h; have h:=@Ix.eq_2; clear h
  have h:=@Me.eq_def; clear h; have h:=@Me.eq_1; clear h; have h:=@Me.eq_2; clear h
  have h:=@Mf.eq_def; clear h; have h:=@Mf.eq_1; clear h; have h:=@Mf.eq_2; clear h
  have h:=@Ln.eq_def; clear h; have h:=@Ln.eq_1; clear h; have h:=@Ln.eq_2; clear h
  have h:=@Mk.eq_def; clear h; have h:=@Mk.eq_1; clear h; have h:=@Mk.eq_2; clear h
  have h:=@Lo.eq_def; clear h; have h:=@Lo.eq_1; clear h; have h:=@Lo.eq_2; clear h
  have h:=@Nh.eq_def; clear h; have h:=@Nh.eq_1; clear h; have h:=@Nh.eq_2; clear h
  have h:=@Ek.eq_def; clear h; have h:=@Ek.eq_1; clear h; have h:=@Ek.eq_2; clear h
  have h:=@Ny.eq_def; clear h; have h:=@Ny.eq_1; clear h; have h:=@Ny.eq_2; clear h
  have h:=@Nz.eq_def; clear h; have h:=@Nz.eq_1; clear h; have h:=@Nz.eq_2; clear h
  have h:=@Oa.eq_def; clear h; have h:=@Oa.eq_1; clear h; have h:=@Oa.eq_2; clear h
  have h:=@Lc.eq_def; clear h; have h:=@Lc.eq_1; clear h; have h:=@Lc.eq_2; clear h
  have h:=@Lx.eq_def; clear h; have h:=@Lx.eq_1; clear h; have h:=@Lx.eq_2; clear h
  have h:=@Ly.eq_def; clear h; have h:=@Ly.eq_1; clear h; have h:=@Ly.eq_2; clear h
  have h:=@Ml.eq_def; clear h; have h:=@Ml.eq_1; clear h; have h:=@Ml.eq_2; clear h
  have h:=@Ob.eq_def; clear h; have h:=@Ob.eq_1; clear h; have h:=@Ob.eq_2; clear h
  have h:=@Px.eq_def; clear h; have h:=@Px.eq_1; clear h; have h:=@Px.eq_2; clear h
  have h:=@Py.eq_def; clear h; have h:=@Py.eq_1; clear h; have h:=@Py.eq_2; clear h
  have h:=@Lz.eq_def; clear h; have h:=@Lz.eq_1; clear h; have h:=@Lz.eq_2; clear h
  have h:=@Ma.eq_def; clear h; have h:=@Ma.eq_1; clear h; have h:=@Ma.eq_2; clear h
  have h:=@Kv.eq_def; clear h; have h:=@Kv.eq_1; clear h; have h:=@Kv.eq_2; clear h
  have h:=@Pz.eq_def; clear h; have h:=@Pz.eq_1; clear h; have h:=@Pz.eq_2; clear h
  have h:=@Hf.eq_def; clear h; have h:=@Hf.eq_1; clear h; have h:=@Hf.eq_2; clear h
  have h:=@Gk.eq_def; clear h; have h:=@Gk.eq_1; clear h; have h:=@Gk.eq_2; clear h
  trivial
end
end Go.Proofs.YtfcmmengcdebnaaGreatDoor
