/- The Go functions as plain Lean functions,by program. -/
import Derived.Test.YtgfjjiheamdgbaaGreatDoorBase
namespace Go.Proofs.YtgfjjiheamdgbaaGreatDoor
open Go
noncomputable section
structure CU where
  L : List Int
  at_ : Int
  deriving DecidableEq,Inhabited
structure Ef where
  Key : ByteArray
  Race : ByteArray
  Clubs : List ByteArray
  Young : Int
  Old : Int
  deriving DecidableEq,Inhabited
structure An where
  At : Int
  Kind : Int
  Id : ByteArray
  Who : ByteArray
  Club : ByteArray
  Race : ByteArray
  Age : Int
  Time : Int
  deriving DecidableEq,Inhabited
structure Cl where
  s_ : An
  sure_ : Bool
  void_ : Bool
  deriving DecidableEq,Inhabited
def Cj : ByteArray:=⟨#[]⟩
def Mj : ByteArray:=⟨#[107,97]⟩
def Pl : ByteArray:=⟨#[107,98]⟩
def Pm : ByteArray:=⟨#[107,99]⟩
def Og : ByteArray:=⟨#[114,97]⟩
def Ua : ByteArray:=⟨#[114,98]⟩
def Jc : ByteArray:=⟨#[98,108,117,101]⟩
def Mg : ByteArray:=⟨#[114,101,100]⟩
def k_A : ByteArray:=⟨#[65]⟩
def Wu : ByteArray:=⟨#[122,101,100]⟩
def AX : ByteArray:=⟨#[105,97]⟩
def AY : ByteArray:=⟨#[105,98]⟩
def AZ : ByteArray:=⟨#[105,99]⟩
def BA : ByteArray:=⟨#[105,100]⟩
def BB : ByteArray:=⟨#[105,101]⟩
def BC : ByteArray:=⟨#[105,102]⟩
def Wv : ByteArray:=⟨#[97,110,110]⟩
def Ww : ByteArray:=⟨#[98,101,97]⟩
def Ez : ByteArray:=⟨#[97,98,99,100,101,102,103,104,105,106,107,108,109,110,111,112,113,114,115,116,117,118,119,120,121,122,48,49,50,51,52,53,54,55,56,57,45,95]⟩
def Ha : ByteArray:=⟨#[97,98,99,100,101,102,103,104,105,106,107,108,109,110,111,112,113,114,115,116,117,118,119,120,121,122]⟩
def k_k : ByteArray:=⟨#[107]⟩
def k_r : ByteArray:=⟨#[114]⟩
def k_i : ByteArray:=⟨#[105]⟩
def k_a : ByteArray:=⟨#[97]⟩
def Kp (p_x : Int) (p_n : Int) : Option Int :=
  if decide (p_n < 1) then
  some 0
  else
  Chk (!decide (p_n = 0)) (
  Es (fun (x1 : Int) =>
  some x1) (fun j1 =>
  if decide ((Int.tmod p_x p_n) < 0) then
  j1 (W ((Int.tmod p_x p_n) + p_n))
  else
  j1 (Int.tmod p_x p_n)))
def Jf (p_s_L : List Int) (p_s_at : Int) (p_n : Int) : Option (Int × Int) :=
  if decide ((p_s_L.length : Int) = 0) then
  Option.bind (Kp (W ((W (p_s_at + 1)) * 7919)) p_n) (fun r1 =>
  some (r1,W (p_s_at + 1)))
  else
  Chk (!decide ((p_s_L.length : Int) = 0)) (
  Chk (!decide ((p_s_L.length : Int) = 0)) (
  Chk (inB (Int.tmod (W ((W (p_s_at + 1)) - 1)) (p_s_L.length : Int)) p_s_L.length) (
  Option.bind (Kp (nth p_s_L (Int.tmod (W ((W (p_s_at + 1)) - 1)) (p_s_L.length : Int))) 1073741824) (fun r2 =>
  Option.bind (Kp (W (r2 + (W ((W (Int.tdiv (W ((W (p_s_at + 1)) - 1)) (p_s_L.length : Int))) * (W (7919 + (Int.tmod (W ((W (p_s_at + 1)) - 1)) (p_s_L.length : Int)))))))) p_n) (fun r3 =>
  some (r3,W (p_s_at + 1)))))))
def Iv (p_s_L : List Int) (p_s_at : Int) (p_n : Int) : Option (Bool × Int) :=
  Option.bind (Jf p_s_L p_s_at p_n) (fun r1 =>
  some (decide (r1.1 = 0),r1.2))
def Gw (p_s_L : List Int) (p_s_at : Int) (p_l : List ByteArray) : Option (ByteArray × Int) :=
  Option.bind (Jf p_s_L p_s_at (p_l.length : Int)) (fun r1 =>
  Chk (inB r1.1 p_l.length) (
  some ((nth p_l r1.1),r1.2)))
def Jg (p_s_L : List Int) (p_s_at : Int) (p_l : List Int) : Option (Int × Int) :=
  Option.bind (Jf p_s_L p_s_at (p_l.length : Int)) (fun r1 =>
  Chk (inB r1.1 p_l.length) (
  some ((nth p_l r1.1),r1.2)))
def Gn (p_s_L : List Int) (j3 : (List ByteArray) → Int → Option ((List Ef) × Int)) : List ByteArray → Nat → (List ByteArray) → Int → Option ((List Ef) × Int)
  | [],_,x5,x6=>j3 x5 x6
  | y2 :: ys2,i2,x5,x6=>Es (fun (x7 : List ByteArray) (x8 : Int) =>
  Gn p_s_L j3 ys2 (i2 + 1) x7 x8) (fun j4 =>
  Option.bind (Iv p_s_L x6 3) (fun r5 =>
  Es (fun (x9 : List ByteArray) =>
  j4 x9 r5.2) (fun j5 =>
  if r5.1 then
  Chk (Mw x5.length) (
  j5 (x5 ++ [y2]))
  else
  j5 x5)))
def Gg (p_s_L : List Int) (j1 : (List Ef) → Int → Option ((List Ef) × Int)) : List ByteArray → Nat → (List Ef) → Int → Option ((List Ef) × Int)
  | [],_,x1,x2=>j1 x1 x2
  | y1 :: ys1,i1,x1,x2=>Es (fun (x3 : List Ef) (x4 : Int) =>
  Gg p_s_L j1 ys1 (i1 + 1) x3 x4) (fun j2 =>
  Option.bind (Iv p_s_L x2 6) (fun r1 =>
  if r1.1 then
  j2 x1 r1.2
  else
  Option.bind (Gw p_s_L r1.2 [Og,Og,Ua]) (fun r2 =>
  Option.bind (Jg p_s_L r2.2 [0,0,10]) (fun r3 =>
  Option.bind (Jg p_s_L r3.2 [14,99,150]) (fun r4 =>
  Es (fun (x5 : List ByteArray) (x6 : Int) =>
  Chk (Mw x1.length) (
  j2 (x1 ++ [(Ef.mk y1 r2.1 x5 r3.1 r4.1)]) x6)) (fun j3 =>
  Gn p_s_L j3 ([Jc,Mg] : List ByteArray) 0 ([] : List ByteArray) r4.2))))))
def Ky (p_s_L : List Int) (p_s_at : Int) : Option ((List Ef) × Int) :=
  Es (fun (x1 : List Ef) (x2 : Int) =>
  some (x1,x2)) (fun j1 =>
  Gg p_s_L j1 ([Mj,Pl,Pm] : List ByteArray) 0 ([] : List Ef) p_s_at)
def Kz (p_s_L : List Int) (p_s_at : Int) (p_low : Int) (p_high : Int) : Option (Int × Int) :=
  if decide (p_high < p_low) then
  some (p_low,p_s_at)
  else
  Option.bind (Jf p_s_L p_s_at (W ((W (p_high - p_low)) + 1))) (fun r1 =>
  some (W (p_low + r1.1),r1.2))
def Jl (p_s_L : List Int) (p_s_at : Int) (p_low : Int) (p_high : Int) : Option (Int × Int) :=
  Option.bind (Iv p_s_L p_s_at 12) (fun r1 =>
  if r1.1 then
  Option.bind (Jg p_s_L r1.2 [W (p_low - 1),W (p_high + 1),p_low,p_high,(-1099511627776),1099511627776]) (fun r2 =>
  some (r2.1,r2.2))
  else
  Option.bind (Kz p_s_L r1.2 p_low p_high) (fun r3 =>
  some (r3.1,r3.2)))
def Li (p_s : List ByteArray) : Option (List ByteArray) :=
  Chk (decide ((([] : List ByteArray) : List ByteArray).length + p_s.length < 1073741824)) (
  some ((([] : List ByteArray) : List ByteArray) ++ p_s))
def Nw (p_s_L : List Int) (p_s_at : Int) : Option ((List Ef) × Int) :=
  Option.bind (Ky p_s_L p_s_at) (fun r1 =>
  Es (fun (x1 : Int) (x2 : Bool) =>
  Es (fun (x3 : List Ef) (x4 : Int) =>
  some (x3,x4)) (fun j2 =>
  if x2 then
  Option.bind (Jf p_s_L x1 (r1.1.length : Int)) (fun r3 =>
  Chk (inB r3.1 r1.1.length) (
  Es (fun (x5 : List Ef) (x6 : Int) =>
  Chk (inB r3.1 x5.length) (
  Option.bind (Li ((nth x5 r3.1).Clubs)) (fun r10 =>
  Option.bind (Gw p_s_L x6 [Jc,Cj,Wu]) (fun r11 =>
  Chk (Mw r10.length) (
  j2 (x5.set r3.1.toNat (Ef.mk ((nth x5 r3.1).Key) ((nth x5 r3.1).Race) (r10 ++ [r11.1]) ((nth x5 r3.1).Young) ((nth x5 r3.1).Old))) r11.2))))) (fun j3 =>
  Option.bind (Gw p_s_L r3.2 [(nth r1.1 r3.1).Key,Cj,Mj]) (fun r5 =>
  Option.bind (Gw p_s_L r5.2 [(nth r1.1 r3.1).Race,k_A]) (fun r6 =>
  Option.bind (Jl p_s_L r6.2 0 20) (fun r7 =>
  Option.bind (Jl p_s_L r7.2 0 150) (fun r8 =>
  j3 ((((r1.1.set r3.1.toNat (Ef.mk r5.1 ((nth r1.1 r3.1).Race) ((nth r1.1 r3.1).Clubs) ((nth r1.1 r3.1).Young) ((nth r1.1 r3.1).Old))).set r3.1.toNat (Ef.mk r5.1 r6.1 ((nth r1.1 r3.1).Clubs) ((nth r1.1 r3.1).Young) ((nth r1.1 r3.1).Old))).set r3.1.toNat (Ef.mk r5.1 r6.1 ((nth r1.1 r3.1).Clubs) r7.1 ((nth r1.1 r3.1).Old))).set r3.1.toNat (Ef.mk r5.1 r6.1 ((nth r1.1 r3.1).Clubs) r7.1 r8.1)) r8.2)))))))
  else
  j2 r1.1 x1)) (fun j1 =>
  if (decide (0 < (r1.1.length : Int))) then
  Option.bind (Iv p_s_L r1.2 12) (fun r2 =>
  j1 r2.2 r2.1)
  else
  j1 r1.2 false))
def Lw (p_s_L : List Int) (p_s_at : Int) (p_at : Int) : Option (An × Int) :=
  Option.bind (Gw p_s_L p_s_at [AX,AY,AZ,BA,BB,BC]) (fun r1 =>
  Option.bind (Gw p_s_L r1.2 [Wv,Ww]) (fun r2 =>
  Option.bind (Gw p_s_L r2.2 [Jc,Mg,Cj]) (fun r3 =>
  Option.bind (Gw p_s_L r3.2 [Og,Og,Ua]) (fun r4 =>
  Option.bind (Jg p_s_L r4.2 [9,10,14,15,20]) (fun r5 =>
  Option.bind (Jg p_s_L r5.2 [95,96,97,100,1,2]) (fun r6 =>
  some ((An.mk p_at 1 r1.1 r2.1 r3.1 r4.1 r5.1 r6.1),r6.2)))))))
def Mx (p_n : Int) : Int :=
  if decide (p_n < 0) then
  (-1)
  else
  if decide (0 < p_n) then
  1
  else
  0
def Gr (s t : ByteArray) : Int:=Lib.compareBytes s.data.toList t.data.toList
def Df (p_a : An) (p_b : An) : Int :=
  if !decide (p_a.At = p_b.At) then
  (Mx (W (p_a.At - p_b.At)))
  else
  if !decide (p_a.Id = p_b.Id) then
  (Gr p_a.Id p_b.Id)
  else
  (Mx (W (p_a.Kind - p_b.Kind)))
def Cp (p_a : Int) (j2 : (List An) → Option (List An)) : Nat → (List An) → Int → Option (List An)
  | 0,_,_=>none
  | m2 + 1,x3,x4=>Es (fun (x5 : Bool) =>
  if x5 then
  Chk (inB (W (x4 - 1)) x3.length) (
  Chk (inB x4 x3.length) (
  Chk (inB x4 x3.length) (
  Chk (inB (W (x4 - 1)) (x3.set x4.toNat (nth x3 (W (x4 - 1)))).length) (
  Cp p_a j2 m2 ((x3.set x4.toNat (nth x3 (W (x4 - 1)))).set ((W (x4 - 1)).toNat) (nth x3 x4)) (W (x4 - 1))))))
  else
  j2 x3) (fun j3 =>
  if decide (p_a < x4) then
  Chk (inB x4 x3.length) (
  Chk (inB (W (x4 - 1)) x3.length) (
  j3 (decide ((Df (nth x3 x4) (nth x3 (W (x4 - 1)))) < 0))))
  else
  j3 false)
def Cr (p_b : Int) (p_a : Int) (j1 : (List An) → Option (List An)) : Nat → (List An) → Int → Option (List An)
  | 0,_,_=>none
  | m1 + 1,x1,x2=>if decide (x2 < p_b) then
  Es (fun (x3 : List An) =>
  Cr p_b p_a j1 m1 x3 (W (x2 + 1))) (fun j2 =>
  Cp p_a j2 ((x2 - p_a).toNat + 2) x1 x2)
  else
  j1 x1
def Dm (p_data : List An) (p_a : Int) (p_b : Int) : Option (List An) :=
  Es (fun (x1 : List An) =>
  some x1) (fun j1 =>
  Cr p_b p_a j1 ((p_b - (W (p_a + 1))).toNat + 2) p_data (W (p_a + 1)))
def Cx (p_n : Int) (p_b : Int) (p_a : Int) (j1 : (List An) → Option (List An)) : Nat → (List An) → Int → Option (List An)
  | 0,_,_=>none
  | m1 + 1,x1,x2=>if decide (x2 < p_n) then
  Chk (inB (W (p_b + x2)) x1.length) (
  Chk (inB (W (p_a + x2)) x1.length) (
  Chk (inB (W (p_a + x2)) x1.length) (
  Chk (inB (W (p_b + x2)) (x1.set ((W (p_a + x2)).toNat) (nth x1 (W (p_b + x2)))).length) (
  Cx p_n p_b p_a j1 m1 ((x1.set ((W (p_a + x2)).toNat) (nth x1 (W (p_b + x2)))).set ((W (p_b + x2)).toNat) (nth x1 (W (p_a + x2)))) (W (x2 + 1))))))
  else
  j1 x1
def Dv (p_data : List An) (p_a : Int) (p_b : Int) (p_n : Int) : Option (List An) :=
  Es (fun (x1 : List An) =>
  some x1) (fun j1 =>
  Cx p_n p_b p_a j1 ((p_n - 0).toNat + 2) p_data 0)
def Dg (p_m : Int) (j1 : (List An) → Int → Option (List An)) : Nat → (List An) → Int → Int → Option (List An)
  | 0,_,_,_=>none
  | m1 + 1,x1,x2,x3=>if !decide (x2 = x3) then
  Es (fun (x4 : List An) (x5 : Int) (x6 : Int) =>
  Dg p_m j1 m1 x4 x5 x6) (fun j2 =>
  Es (fun (x7 : List An) (x8 : Int) (x9 : Int) =>
  j2 x7 x8 x9) (fun j3 =>
  if decide (x3 < x2) then
  Option.bind (Dv x1 (W (p_m - x2)) p_m x3) (fun r1 =>
  j3 r1 (W (x2 - x3)) x3)
  else
  Option.bind (Dv x1 (W (p_m - x2)) (W ((W (p_m + x3)) - x2)) x2) (fun r2 =>
  j3 r2 x2 (W (x3 - x2)))))
  else
  j1 x1 x2
def Ek (p_data : List An) (p_a : Int) (p_m : Int) (p_b : Int) : Option (List An) :=
  Es (fun (x1 : List An) (x2 : Int) =>
  Option.bind (Dv x1 (W (p_m - x2)) p_m x2) (fun r3 =>
  some r3)) (fun j1 =>
  Dg p_m j1 4611686018427387904 p_data (W (p_m - p_a)) (W (p_b - p_m)))
def Cz (p_data : List An) (p_a : Int) (j1 : Int → Option (List An)) : Nat → Int → Int → Option (List An)
  | 0,_,_=>none
  | m1 + 1,x1,x2=>if decide (x1 < x2) then
  Es (fun (x3 : Int) (x4 : Int) =>
  Cz p_data p_a j1 m1 x3 x4) (fun j2 =>
  Chk (inB (W (Di .u64 (IntKind.wrap .u64 (W (x1 + x2))) 1)) p_data.length) (
  Chk (inB p_a p_data.length) (
  Es (fun (x5 : Int) (x6 : Int) =>
  j2 x5 x6) (fun j3 =>
  if decide ((Df (nth p_data (W (Di .u64 (IntKind.wrap .u64 (W (x1 + x2))) 1))) (nth p_data p_a)) < 0) then
  j3 (W ((W (Di .u64 (IntKind.wrap .u64 (W (x1 + x2))) 1)) + 1)) x2
  else
  j3 x1 (W (Di .u64 (IntKind.wrap .u64 (W (x1 + x2))) 1))))))
  else
  j1 x1
def Cu (x1 : Int) (j4 : (List An) → Option (List An)) : Nat → (List An) → Int → Option (List An)
  | 0,_,_=>none
  | m2 + 1,x7,x8=>if decide (x8 < (W (x1 - 1))) then
  Chk (inB (W (x8 + 1)) x7.length) (
  Chk (inB x8 x7.length) (
  Chk (inB x8 x7.length) (
  Chk (inB (W (x8 + 1)) (x7.set x8.toNat (nth x7 (W (x8 + 1)))).length) (
  Cu x1 j4 m2 ((x7.set x8.toNat (nth x7 (W (x8 + 1)))).set ((W (x8 + 1)).toNat) (nth x7 x8)) (W (x8 + 1))))))
  else
  j4 x7
def Da (p_m : Int) (p_data : List An) (j5 : Int → Option (List An)) : Nat → Int → Int → Option (List An)
  | 0,_,_=>none
  | m3 + 1,x9,x10=>if decide (x9 < x10) then
  Es (fun (x11 : Int) (x12 : Int) =>
  Da p_m p_data j5 m3 x11 x12) (fun j6 =>
  Chk (inB p_m p_data.length) (
  Chk (inB (W (Di .u64 (IntKind.wrap .u64 (W (x9 + x10))) 1)) p_data.length) (
  Es (fun (x13 : Int) (x14 : Int) =>
  j6 x13 x14) (fun j7 =>
  if !(decide ((Df (nth p_data p_m) (nth p_data (W (Di .u64 (IntKind.wrap .u64 (W (x9 + x10))) 1)))) < 0)) then
  j7 (W ((W (Di .u64 (IntKind.wrap .u64 (W (x9 + x10))) 1)) + 1)) x10
  else
  j7 x9 (W (Di .u64 (IntKind.wrap .u64 (W (x9 + x10))) 1))))))
  else
  j5 x9
def Cv (x9 : Int) (j8 : (List An) → Option (List An)) : Nat → (List An) → Int → Option (List An)
  | 0,_,_=>none
  | m4 + 1,x15,x16=>if decide (x9 < x16) then
  Chk (inB (W (x16 - 1)) x15.length) (
  Chk (inB x16 x15.length) (
  Chk (inB x16 x15.length) (
  Chk (inB (W (x16 - 1)) (x15.set x16.toNat (nth x15 (W (x16 - 1)))).length) (
  Cv x9 j8 m4 ((x15.set x16.toNat (nth x15 (W (x16 - 1)))).set ((W (x16 - 1)).toNat) (nth x15 x16)) (W (x16 - 1))))))
  else
  j8 x15
def Cw (p_a : Int) (p_b : Int) (p_m : Int) (p_data : List An) (j10 : Int → Option (List An)) : Nat → Int → Int → Option (List An)
  | 0,_,_=>none
  | m5 + 1,x19,x20=>if decide (x19 < x20) then
  Es (fun (x21 : Int) (x22 : Int) =>
  Cw p_a p_b p_m p_data j10 m5 x21 x22) (fun j11 =>
  Chk (inB (W ((W ((W ((W (Di .u64 (IntKind.wrap .u64 (W (p_a + p_b))) 1)) + p_m)) - 1)) - (W (Di .u64 (IntKind.wrap .u64 (W (x19 + x20))) 1)))) p_data.length) (
  Chk (inB (W (Di .u64 (IntKind.wrap .u64 (W (x19 + x20))) 1)) p_data.length) (
  Es (fun (x23 : Int) (x24 : Int) =>
  j11 x23 x24) (fun j12 =>
  if !(decide ((Df (nth p_data (W ((W ((W ((W (Di .u64 (IntKind.wrap .u64 (W (p_a + p_b))) 1)) + p_m)) - 1)) - (W (Di .u64 (IntKind.wrap .u64 (W (x19 + x20))) 1))))) (nth p_data (W (Di .u64 (IntKind.wrap .u64 (W (x19 + x20))) 1)))) < 0)) then
  j12 (W ((W (Di .u64 (IntKind.wrap .u64 (W (x19 + x20))) 1)) + 1)) x20
  else
  j12 x19 (W (Di .u64 (IntKind.wrap .u64 (W (x19 + x20))) 1))))))
  else
  j10 x19
def Ds (self : (List An) → Int → Int → Int → Option (List An)) (p_data : List An) (p_a : Int) (p_m : Int) (p_b : Int) : Option (List An) :=
  if decide ((W (p_m - p_a)) = 1) then
  Es (fun (x1 : Int) =>
  Es (fun (x7 : List An) =>
  some x7) (fun j4 =>
  Cu x1 j4 (((W (x1 - 1)) - p_a).toNat + 2) p_data p_a)) (fun j1 =>
  Cz p_data p_a j1 ((p_b - p_m).toNat + 2) p_m p_b)
  else
  if decide ((W (p_b - p_m)) = 1) then
  Es (fun (x9 : Int) =>
  Es (fun (x15 : List An) =>
  some x15) (fun j8 =>
  Cv x9 j8 ((p_m - x9).toNat + 2) p_data p_m)) (fun j5 =>
  Da p_m p_data j5 ((p_m - p_a).toNat + 2) p_a p_m)
  else
  Es (fun (x17 : Int) (x18 : Int) =>
  Es (fun (x19 : Int) =>
  Es (fun (x25 : List An) =>
  Es (fun (x26 : List An) =>
  Es (fun (x27 : List An) =>
  some x27) (fun j15 =>
  if ((decide ((W (Di .u64 (IntKind.wrap .u64 (W (p_a + p_b))) 1)) < (W ((W ((W (Di .u64 (IntKind.wrap .u64 (W (p_a + p_b))) 1)) + p_m)) - x19)))) && (decide ((W ((W ((W (Di .u64 (IntKind.wrap .u64 (W (p_a + p_b))) 1)) + p_m)) - x19)) < p_b))) then
  Option.bind (self x26 (W (Di .u64 (IntKind.wrap .u64 (W (p_a + p_b))) 1)) (W ((W ((W (Di .u64 (IntKind.wrap .u64 (W (p_a + p_b))) 1)) + p_m)) - x19)) p_b) (fun r3 =>
  j15 r3)
  else
  j15 x26)) (fun j14 =>
  if ((decide (p_a < x19)) && (decide (x19 < (W (Di .u64 (IntKind.wrap .u64 (W (p_a + p_b))) 1))))) then
  Option.bind (self x25 p_a x19 (W (Di .u64 (IntKind.wrap .u64 (W (p_a + p_b))) 1))) (fun r2 =>
  j14 r2)
  else
  j14 x25)) (fun j13 =>
  if ((decide (x19 < p_m)) && (decide (p_m < (W ((W ((W (Di .u64 (IntKind.wrap .u64 (W (p_a + p_b))) 1)) + p_m)) - x19))))) then
  Option.bind (Ek p_data x19 p_m (W ((W ((W (Di .u64 (IntKind.wrap .u64 (W (p_a + p_b))) 1)) + p_m)) - x19))) (fun r1 =>
  j13 r1)
  else
  j13 p_data)) (fun j10 =>
  Cw p_a p_b p_m p_data j10 ((x18 - x17).toNat + 2) x17 x18)) (fun j9 =>
  if decide ((W (Di .u64 (IntKind.wrap .u64 (W (p_a + p_b))) 1)) < p_m) then
  j9 (W ((W ((W (Di .u64 (IntKind.wrap .u64 (W (p_a + p_b))) 1)) + p_m)) - p_b)) (W (Di .u64 (IntKind.wrap .u64 (W (p_a + p_b))) 1))
  else
  j9 p_a p_m)
def Cm : Nat → (List An) → Int → Int → Int → Option (List An)
  | 0,_,_,_,_=>none
  | m + 1,p_data,p_a,p_m,p_b=>Ds (Cm m) p_data p_a p_m p_b
def Db (p_n : Int) (j1 : (List An) → Int → Option (List An)) : Nat → (List An) → Int → Int → Option (List An)
  | 0,_,_,_=>none
  | m1 + 1,x1,x2,x3=>if decide (x3 ≤ p_n) then
  Option.bind (Dm x1 x2 x3) (fun r1 =>
  Db p_n j1 m1 r1 x3 (W (x3 + 20)))
  else
  j1 x1 x2
def Dk (p_n : Int) (x5 : Int) (j3 : (List An) → Int → Option (List An)) : Nat → (List An) → Int → Int → Option (List An)
  | 0,_,_,_=>none
  | m3 + 1,x6,x7,x8=>if decide (x8 ≤ p_n) then
  Option.bind (Cm 16 x6 x7 (W (x7 + x5)) x8) (fun r3 =>
  Dk p_n x5 j3 m3 r3 x8 (W (x8 + (W (2 * x5)))))
  else
  j3 x6 x7
def Dc (p_n : Int) (j2 : (List An) → Option (List An)) : Nat → (List An) → Int → Option (List An)
  | 0,_,_=>none
  | m2 + 1,x4,x5=>if decide (x5 < p_n) then
  Es (fun (x6 : List An) (x7 : Int) =>
  Es (fun (x9 : List An) =>
  Dc p_n j2 m2 x9 (W (x5 * 2))) (fun j4 =>
  if decide ((W (x7 + x5)) < p_n) then
  Option.bind (Cm 16 x6 x7 (W (x7 + x5)) p_n) (fun r4 =>
  j4 r4)
  else
  j4 x6)) (fun j3 =>
  Dk p_n x5 j3 ((p_n - (W (2 * x5))).toNat + 2) x4 0 (W (2 * x5)))
  else
  j2 x4
def Fk (p_data : List An) (p_n : Int) : Option (List An) :=
  Es (fun (x1 : List An) (x2 : Int) =>
  Option.bind (Dm x1 x2 p_n) (fun r2 =>
  Es (fun (x4 : List An) =>
  some x4) (fun j2 =>
  Dc p_n j2 ((p_n - 20).toNat + 2) r2 20))) (fun j1 =>
  Db p_n j1 ((p_n - 20).toNat + 2) p_data 0 20)
def Dq (p_x : List An) : Option (List An) :=
  Option.bind (Fk p_x (p_x.length : Int)) (fun r1 =>
  some r1)
def Lx (p_a : An) (p_b : An) : Bool :=
  decide ((Df p_a p_b) = 0)
def Dw (p_s : List An) (x1 : Int) (j2 : (List An) → Int → Option (List An)) : Nat → (List An) → Int → Int → Option (List An)
  | 0,_,_,_=>none
  | m2 + 1,x2,x3,x4=>if decide (x4 < (((p_s.length : Int).toNat - x1.toNat : Nat) : Int)) then
  Es (fun (x5 : List An) (x6 : Int) =>
  Dw p_s x1 j2 m2 x5 x6 (W (x4 + 1))) (fun j3 =>
  Chk (inB x4 ((p_s.length : Int).toNat - x1.toNat)) (
  Chk (inB (W (x4 - 1)) ((p_s.length : Int).toNat - x1.toNat)) (
  Es (fun (x7 : List An) (x8 : Int) =>
  j3 x7 x8) (fun j4 =>
  if !(Lx (nth (cut x2 x1 (p_s.length : Int)) x4) (nth (cut x2 x1 (p_s.length : Int)) (W (x4 - 1)))) then
  Chk (inB x4 ((p_s.length : Int).toNat - x1.toNat)) (
  Chk (inB x3 x2.length) (
  j4 (x2.set x3.toNat (nth (cut x2 x1 (p_s.length : Int)) x4)) (W (x3 + 1))))
  else
  j4 x2 x3))))
  else
  j2 x2 x3
def Dn (p_s : List An) (j1 : Option (List An)) : Nat → Int → Option (List An)
  | 0,_=>none
  | m1 + 1,x1=>if decide (x1 < (p_s.length : Int)) then
  Chk (inB x1 p_s.length) (
  Chk (inB (W (x1 - 1)) p_s.length) (
  if (Lx (nth p_s x1) (nth p_s (W (x1 - 1)))) then
  Chk (Pf x1 (p_s.length : Int) p_s.length) (
  Es (fun (x2 : List An) (x3 : Int) =>
  Chk (Pf x3 (x2.length : Int) x2.length) (
  Chk (Pf 0 x3 (clr x2 x3 (x2.length : Int) (An.mk 0 0 Cj Cj Cj Cj 0 0)).length) (
  some (cut (clr x2 x3 (x2.length : Int) (An.mk 0 0 Cj Cj Cj Cj 0 0)) (0 : Int) x3)))) (fun j2 =>
  Dw p_s x1 j2 (((((p_s.length : Int).toNat - x1.toNat : Nat) : Int) - 1).toNat + 2) p_s x1 1))
  else
  Dn p_s j1 m1 (W (x1 + 1))))
  else
  j1
def Ff (p_s : List An) : Option (List An) :=
  if decide ((p_s.length : Int) < 2) then
  some p_s
  else
  Es (some p_s) (fun j1 =>
  Dn p_s j1 (((p_s.length : Int) - 1).toNat + 2) 1)
def Gd (p_many : Int) (p_s_L : List Int) (j1 : (List An) → Int → Option ((List An) × Int)) : Nat → (List An) → Int → Int → Int → Option ((List An) × Int)
  | 0,_,_,_,_=>none
  | m1 + 1,x1,x2,x3,x4=>if decide (x4 < p_many) then
  Option.bind (Jg p_s_L x2 [0,1,1,5]) (fun r1 =>
  Option.bind (Lw p_s_L r1.2 (W (x3 + r1.1))) (fun r2 =>
  Option.bind (Iv p_s_L r2.2 3) (fun r3 =>
  Es (fun (x5 : Int) (x6 : Int) (x7 : ByteArray) (x8 : ByteArray) (x9 : ByteArray) (x10 : Int) (x11 : Int) (x12 : Int) =>
  Option.bind (Iv p_s_L x12 80) (fun r5 =>
  Es (fun (x13 : Int) (x14 : Int) (x15 : ByteArray) (x16 : ByteArray) (x17 : ByteArray) (x18 : ByteArray) (x19 : Int) (x20 : Int) (x21 : Int) =>
  Chk (Mw x1.length) (
  Gd p_many p_s_L j1 m1 (x1 ++ [(An.mk x13 x14 x15 x16 x17 x18 x19 x20)]) x21 (W (x3 + r1.1)) (W (x4 + 1)))) (fun j3 =>
  if r5.1 then
  Option.bind (Jf p_s_L r5.2 4) (fun r6 =>
  Es (fun (x22 : Int) (x23 : Int) (x24 : ByteArray) (x25 : ByteArray) (x26 : ByteArray) (x27 : ByteArray) (x28 : Int) (x29 : Int) (x30 : Int) =>
  j3 x22 x23 x24 x25 x26 x27 x28 x29 x30) (fun j4 =>
  Es (fun (x31 : Int) (x32 : Int) (x33 : ByteArray) (x34 : ByteArray) (x35 : ByteArray) (x36 : ByteArray) (x37 : Int) (x38 : Int) (x39 : Int) =>
  j4 x31 x32 x33 x34 x35 x36 x37 x38 x39) (fun j5 =>
  if decide (r6.1 = 0) then
  Option.bind (Jl p_s_L r6.2 0 50) (fun r7 =>
  Option.bind (Jl p_s_L r7.2 1 3) (fun r8 =>
  j5 r7.1 r8.1 r2.1.Id x7 x8 x9 x10 x11 r8.2))
  else
  Es (fun (x40 : ByteArray) (x41 : ByteArray) (x42 : ByteArray) (x43 : ByteArray) (x44 : Int) (x45 : Int) (x46 : Int) =>
  j5 x5 x6 x40 x41 x42 x43 x44 x45 x46) (fun j6 =>
  if decide (r6.1 = 1) then
  Es (fun (x47 : ByteArray) (x48 : ByteArray) (x49 : Int) =>
  j6 x47 x48 x8 x9 x10 x11 x49) (fun j7 =>
  Option.bind (Gw p_s_L r6.2 [Cj,r2.1.Id,k_A]) (fun r9 =>
  Option.bind (Gw p_s_L r9.2 [Cj,x7]) (fun r10 =>
  j7 r9.1 r10.1 r10.2)))
  else
  Es (fun (x50 : ByteArray) (x51 : ByteArray) (x52 : Int) (x53 : Int) (x54 : Int) =>
  j6 r2.1.Id x7 x50 x51 x52 x53 x54) (fun j8 =>
  if decide (r6.1 = 2) then
  Es (fun (x55 : ByteArray) (x56 : ByteArray) (x57 : Int) =>
  j8 x55 x56 x10 x11 x57) (fun j9 =>
  Option.bind (Gw p_s_L r6.2 [k_A,x8]) (fun r11 =>
  Option.bind (Gw p_s_L r11.2 [Cj,x9]) (fun r12 =>
  j9 r11.1 r12.1 r12.2)))
  else
  Option.bind (Jl p_s_L r6.2 0 150) (fun r13 =>
  Option.bind (Jl p_s_L r13.2 1 360000) (fun r14 =>
  j8 x8 x9 r13.1 r14.1 r14.2)))))))
  else
  j3 x5 x6 r2.1.Id x7 x8 x9 x10 x11 r5.2))) (fun j2 =>
  if r3.1 then
  Option.bind (Jg p_s_L r3.2 [2,3]) (fun r4 =>
  j2 (W (x3 + r1.1)) r4.1 Cj Cj Cj 0 0 r4.2)
  else
  j2 r2.1.At r2.1.Kind r2.1.Who r2.1.Club r2.1.Race r2.1.Age r2.1.Time r3.2))))
  else
  j1 x1 x2
def Mp (p_s_L : List Int) (p_s_at : Int) (p_many : Int) : Option ((List An) × Int) :=
  Es (fun (x1 : List An) (x2 : Int) =>
  Option.bind (Dq x1) (fun r15 =>
  Option.bind (Ff r15) (fun r16 =>
  some (r16,x2)))) (fun j1 =>
  Gd p_many p_s_L j1 ((p_many - 0).toNat + 2) ([] : List An) p_s_at 0 0)
def Ib (p_s : List An) : Option (List An) :=
  Chk (decide ((([] : List An) : List An).length + p_s.length < 1073741824)) (
  some ((([] : List An) : List An) ++ p_s))
def Lm (p_n : Int) : Bool :=
  ((decide (0 ≤ p_n)) && (decide (p_n < 345686400000)))
def Jm (p_n : Int) (p_low : Int) (p_high : Int) : Bool :=
  ((decide (p_low ≤ p_n)) && (decide (p_n ≤ p_high)))
def Nx (s c : ByteArray) : Option ByteArray :=
  Chk (decide (s.size ≤ 9223372036854775807)) (Chk (decide (c.size < 4294967281)) (Chk (c.data.toList.all fun b=>decide (b.toNat < 128)) (some ⟨(Lib.trimS s.data.toList c.data.toList).toArray⟩)))
def Jt (p_s : ByteArray) : Option Bool :=
  Es (fun (c1 : Bool) =>
  Es (fun (c2 : Bool) =>
  Es (fun (c3 : Bool) =>
  some c3) (fun j3 =>
  if c2 then Option.bind (Nx p_s Ez) (fun r1 =>
  j3 (c2 && (decide (r1 = Cj)))) else j3 (c2 && true))) (fun j2 =>
  if c1 then Chk (inB 0 p_s.size) (
  j2 (c1 && (decide ((Rv p_s 0) ≤ 122)))) else j2 (c1 && true))) (fun j1 =>
  if ((decide (1 ≤ (p_s.size : Int))) && (decide ((p_s.size : Int) ≤ 40))) then Chk (inB 0 p_s.size) (
  j1 (((decide (1 ≤ (p_s.size : Int))) && (decide ((p_s.size : Int) ≤ 40))) && (decide (97 ≤ (Rv p_s 0))))) else j1 (((decide (1 ≤ (p_s.size : Int))) && (decide ((p_s.size : Int) ≤ 40))) && true))
def Lz (p_n : Int) : Bool :=
  (Jm p_n 1 360000)
def Hl (p_x : An) : Option Int :=
  Es (some 0) (fun j1 =>
  if !(Lm p_x.At) then
  some 1
  else
  if !(Jm p_x.Kind 1 3) then
  some 4
  else
  Option.bind (Jt p_x.Id) (fun r1 =>
  if !r1 then
  some 5
  else
  Es (j1) (fun j2 =>
  if !decide (p_x.Kind = 1) then
  if !decide (p_x = (An.mk p_x.At p_x.Kind p_x.Id Cj Cj Cj 0 0)) then
  some 3
  else
  j2
  else
  Option.bind (Jt p_x.Who) (fun r2 =>
  Es (fun (c1 : Bool) =>
  Es (fun (c2 : Bool) =>
  if c2 then
  some 5
  else
  if ((!(Jm p_x.Age 0 150)) || (!(Lz p_x.Time))) then
  some 1
  else
  j2) (fun j4 =>
  if c1 then j4 (c1 || true) else Es (fun (c3 : Bool) =>
  j4 (c1 || c3)) (fun j5 =>
  if (!decide (p_x.Club = Cj)) then Option.bind (Jt p_x.Club) (fun r4 =>
  j5 ((!decide (p_x.Club = Cj)) && (!r4))) else j5 ((!decide (p_x.Club = Cj)) && true)))) (fun j3 =>
  if (!r2) then j3 ((!r2) || true) else Option.bind (Jt p_x.Race) (fun r3 =>
  j3 ((!r2) || (!r3))))))))
def Kk (p_x : Int) : Bool :=
  !decide (p_x = p_x)
def El (p_x : Int) (p_y : Int) : Int :=
  if (Kk p_x) then
  if (Kk p_y) then
  0
  else
  (-1)
  else
  if (Kk p_y) then
  1
  else
  if decide (p_x < p_y) then
  (-1)
  else
  if decide (p_y < p_x) then
  1
  else
  0
def Ii (j1 : Int) : List Int → Nat → Int
  | [],_=>j1
  | y1 :: ys1,i1=>if !decide (y1 = 0) then
  y1
  else
  Ii j1 ys1 (i1 + 1)
def Nh (p_vals : List Int) : Int :=
  Es (0) (fun j1 =>
  Ii j1 p_vals 0)
def Cs (p_a : An) (p_b : An) : Int :=
  (Nh [(El p_a.At p_b.At),(Gr p_a.Id p_b.Id),(El p_a.Kind p_b.Kind)])
def Er (p_l : List An) (j1 : Option Int) : List An → Nat → Option Int
  | [],_=>j1
  | y1 :: ys1,i1=>Option.bind (Hl y1) (fun r1 =>
  if !decide (r1 = 0) then
  some r1
  else
  Es (fun (x1 : Bool) =>
  if x1 then
  some 7
  else
  Er p_l j1 ys1 (i1 + 1)) (fun j2 =>
  if decide (0 < (i1 : Int)) then
  Chk (inB (W ((i1 : Int) - 1)) p_l.length) (
  j2 (decide (0 ≤ (Cs (nth p_l (W ((i1 : Int) - 1))) y1))))
  else
  j2 false))
def Ec (p_l : List An) : Option Int :=
  if decide (1000 < (p_l.length : Int)) then
  some 2
  else
  Es (some 0) (fun j1 =>
  Er p_l j1 p_l 0)
def Dh (p_x : List An) (p_target : An) (j1 : Int → Option (Int × Bool)) : Nat → Int → Int → Option (Int × Bool)
  | 0,_,_=>none
  | m1 + 1,x1,x2=>if decide (x1 < x2) then
  Es (fun (x3 : Int) (x4 : Int) =>
  Dh p_x p_target j1 m1 x3 x4) (fun j2 =>
  Chk (inB (W (Di .u64 (IntKind.wrap .u64 (W (x1 + x2))) 1)) p_x.length) (
  Es (fun (x5 : Int) (x6 : Int) =>
  j2 x5 x6) (fun j3 =>
  if decide ((Cs (nth p_x (W (Di .u64 (IntKind.wrap .u64 (W (x1 + x2))) 1))) p_target) < 0) then
  j3 (W ((W (Di .u64 (IntKind.wrap .u64 (W (x1 + x2))) 1)) + 1)) x2
  else
  j3 x1 (W (Di .u64 (IntKind.wrap .u64 (W (x1 + x2))) 1)))))
  else
  j1 x1
def Fm (p_x : List An) (p_target : An) : Option (Int × Bool) :=
  Es (fun (x1 : Int) =>
  Es (fun (x7 : Bool) =>
  some (x1,x7)) (fun j4 =>
  if decide (x1 < (p_x.length : Int)) then
  Chk (inB x1 p_x.length) (
  j4 (decide ((Cs (nth p_x x1) p_target) = 0)))
  else
  j4 false)) (fun j1 =>
  Dh p_x p_target j1 (((p_x.length : Int) - 0).toNat + 2) 0 (p_x.length : Int))
open Classical in
def Hp (p_x : List An) : Option (List An):=if So Cs p_x ∧ p_x.length < 4611686018427387904 then some (Lv Cs p_x) else none
def Hb (p_a : List An) (j1 : (List An) → Option ((List An) × Int)) : List An → Nat → (List An) → Option ((List An) × Int)
  | [],_,x1=>j1 x1
  | y1 :: ys1,i1,x1=>Es (fun (x2 : List An) =>
  Hb p_a j1 ys1 (i1 + 1) x2) (fun j2 =>
  Option.bind (Fm p_a y1) (fun r4 =>
  Es (fun (x3 : List An) =>
  j2 x3) (fun j3 =>
  if !r4.2 then
  Chk (Mw x1.length) (
  j3 (x1 ++ [y1]))
  else
  Chk (inB r4.1 p_a.length) (
  if !decide ((nth p_a r4.1) = y1) then
  some (([] : List An),13)
  else
  j3 x1))))
def Jn (p_a : List An) (p_b : List An) : Option ((List An) × Int) :=
  Option.bind (Ec p_a) (fun r1 =>
  if !decide (r1 = 0) then
  some (([] : List An),r1)
  else
  Option.bind (Ec p_b) (fun r2 =>
  if !decide (r2 = 0) then
  some (([] : List An),r2)
  else
  Option.bind (Ib p_a) (fun r3 =>
  Es (fun (x1 : List An) =>
  if decide (1000 < (x1.length : Int)) then
  some (([] : List An),2)
  else
  Option.bind (Hp x1) (fun r5 =>
  some (r5,0))) (fun j1 =>
  Hb p_a j1 p_b 0 r3))))
def Jw (x : List Cl) (k : ByteArray) : Option Nat:=x.findIdx? (fun s=>decide (k = s.s_.Id))
def My (x : List Cl) (k : ByteArray) : Nat:=(Jw x k).getD 0
def Kb (x : List Cl) (k : ByteArray) : Cl:=x.getD (My x k) default
def Hm (p_at : Int) (j1 : (List Cl) → (List Int) → Option ((List Cl) × (List Int))) : List An → Nat → (List Cl) → (List Int) → Option ((List Cl) × (List Int))
  | [],_,x1,x2=>j1 x1 x2
  | y1 :: ys1,i1,x1,x2=>if decide (p_at < y1.At) then
  j1 x1 x2
  else
  Es (fun (x3 : List Cl) (x4 : List Int) =>
  Hm p_at j1 ys1 (i1 + 1) x3 x4) (fun j2 =>
  Es (fun (x5 : List Cl) (x6 : List Int) =>
  j2 x5 x6) (fun j3 =>
  if ((decide (y1.Kind = 1)) && (Jw x1 y1.Id).isNone) then
  Chk (Mw x1.length) (
  j3 (x1 ++ [(Cl.mk y1 false false)]) x2)
  else
  Es (fun (x7 : List Cl) (x8 : List Int) =>
  j3 x7 x8) (fun j4 =>
  if ((((decide (y1.Kind = 2)) && (Jw x1 y1.Id).isSome) && (!((Kb x1 y1.Id).sure_))) && (!((Kb x1 y1.Id).void_))) then
  j4 (x1.set (My x1 y1.Id) (Cl.mk (Kb x1 y1.Id).s_ true (Kb x1 y1.Id).void_)) x2
  else
  Es (fun (x9 : List Cl) (x10 : List Int) =>
  j4 x9 x10) (fun j5 =>
  if (((decide (y1.Kind = 3)) && (Jw x1 y1.Id).isSome) && (!((Kb x1 y1.Id).void_))) then
  j5 (x1.set (My x1 y1.Id) (Cl.mk (Kb x1 y1.Id).s_ (Kb x1 y1.Id).sure_ true)) x2
  else
  Chk (Mw x2.length) (
  j5 x1 (x2 ++ [(i1 : Int)]))))))
def Mz (p_l : List An) (p_at : Int) : Option ((List Cl) × (List Int)) :=
  Es (fun (x1 : List Cl) (x2 : List Int) =>
  some (x1,x2)) (fun j1 =>
  Hm p_at j1 p_l 0 ([] : List Cl) ([] : List Int))
def Jx (p_l : List An) : Option ((List Int) × Int) :=
  Option.bind (Ec p_l) (fun r1 =>
  if !decide (r1 = 0) then
  some (([] : List Int),r1)
  else
  Option.bind (Mz p_l 345686400000) (fun r2 =>
  some (r2.2,0)))
def Jo (j1 : (List ByteArray) → Option ((List ByteArray) × Int)) : List Cl → Nat → (List ByteArray) → Option ((List ByteArray) × Int)
  | [],_,x1=>j1 x1
  | y1 :: ys1,i1,x1=>Es (fun (x2 : List ByteArray) =>
  Jo j1 ys1 (i1 + 1) x2) (fun j2 =>
  Es (fun (x3 : List ByteArray) =>
  j2 x3) (fun j3 =>
  if ((!y1.sure_) && (!y1.void_)) then
  Chk (Mw x1.length) (
  j3 (x1 ++ [y1.s_.Id]))
  else
  j3 x1))
def Nq (p_l : List An) (p_at : Int) : Option ((List ByteArray) × Int) :=
  Option.bind (Ec p_l) (fun r1 =>
  if !decide (r1 = 0) then
  some (([] : List ByteArray),r1)
  else
  if !(Lm p_at) then
  some (([] : List ByteArray),1)
  else
  Option.bind (Mz p_l p_at) (fun r2 =>
  Es (fun (x1 : List ByteArray) =>
  some (x1,0)) (fun j1 =>
  Jo j1 r2.1 0 ([] : List ByteArray))))
def Em (p_n : Int) (p_low : Int) (p_high : Int) : Bool :=
  ((decide (p_low ≤ p_n)) && (decide (p_n ≤ p_high)))
def Ht (p_at : Int) : Bool :=
  (Em p_at 0 345686399999)
def Mh (s : ByteArray) (c : Int) : Int:=Lib.indexByte s.data.toList c.toNat.toUInt8
def Hn (p_s : ByteArray) (p_some : ByteArray) (j1 : Option Bool) : Nat → Int → Option Bool
  | 0,_=>none
  | m1 + 1,x1=>if decide (x1 < (p_s.size : Int)) then
  Chk (inB x1 p_s.size) (
  if decide ((Mh p_some (Rv p_s x1)) < 0) then
  some false
  else
  Hn p_s p_some j1 m1 (W (x1 + 1)))
  else
  j1
def Ma (p_s : ByteArray) (p_some : ByteArray) : Option Bool :=
  Es (some true) (fun j1 =>
  Hn p_s p_some j1 (((p_s.size : Int) - 0).toNat + 2) 0)
def Ic (p_s : ByteArray) : Option Bool :=
  Es (fun (c1 : Bool) =>
  Es (fun (c2 : Bool) =>
  some c2) (fun j2 =>
  if c1 then Option.bind (Ma p_s Ez) (fun r2 =>
  j2 (c1 && r2)) else j2 (c1 && true))) (fun j1 =>
  if (Em (p_s.size : Int) 1 40) then Chk (Pf 0 1 p_s.size) (
  Option.bind (Ma (Zk p_s 0 1) Ha) (fun r1 =>
  j1 ((Em (p_s.size : Int) 1 40) && r1))) else j1 ((Em (p_s.size : Int) 1 40) && true))
def Kq (p_s : An) : Option Int :=
  if !(Ht p_s.At) then
  some 1
  else
  if !(Em p_s.Kind 1 3) then
  some 4
  else
  Option.bind (Ic p_s.Id) (fun r1 =>
  if !r1 then
  some 5
  else
  if !decide (p_s.Kind = 1) then
  if !decide (p_s = (An.mk p_s.At p_s.Kind p_s.Id Cj Cj Cj 0 0)) then
  some 3
  else
  some 0
  else
  Option.bind (Ic p_s.Who) (fun r2 =>
  Es (fun (c1 : Bool) =>
  Es (fun (c2 : Bool) =>
  if c2 then
  some 5
  else
  if ((!(Em p_s.Age 0 150)) || (!(Em p_s.Time 1 360000))) then
  some 1
  else
  some 0) (fun j2 =>
  if c1 then j2 (c1 || true) else Es (fun (c3 : Bool) =>
  j2 (c1 || c3)) (fun j3 =>
  if (!decide (p_s.Club = Cj)) then Option.bind (Ic p_s.Club) (fun r4 =>
  j3 ((!decide (p_s.Club = Cj)) && (!r4))) else j3 ((!decide (p_s.Club = Cj)) && true)))) (fun j1 =>
  if (!r2) then j1 ((!r2) || true) else Option.bind (Ic p_s.Race) (fun r3 =>
  j1 ((!r2) || (!r3))))))
def Fq (p_l : List An) (j1 : Option Int) : List An → Nat → Option Int
  | [],_=>j1
  | y1 :: ys1,i1=>Option.bind (Kq y1) (fun r1 =>
  if !decide (r1 = 0) then
  some r1
  else
  Es (fun (x1 : Bool) =>
  if x1 then
  some 7
  else
  Fq p_l j1 ys1 (i1 + 1)) (fun j2 =>
  if decide (0 < (i1 : Int)) then
  Chk (inB (W ((i1 : Int) - 1)) p_l.length) (
  j2 (decide (0 ≤ (Df (nth p_l (W ((i1 : Int) - 1))) y1))))
  else
  j2 false))
def Hy (p_l : List An) : Option Int :=
  if decide (1000 < (p_l.length : Int)) then
  some 2
  else
  Es (some 0) (fun j1 =>
  Fq p_l j1 p_l 0)
def Gq (j1 : Int) : List Int → Nat → Int
  | [],_=>j1
  | y1 :: ys1,i1=>if !decide (y1 = 0) then
  y1
  else
  Gq j1 ys1 (i1 + 1)
def Du (p_l : List Int) : Int :=
  Es (0) (fun j1 =>
  Gq j1 p_l 0)
def Om (p_is : Bool) (p_e : Int) : Int :=
  if p_is then
  p_e
  else
  0
def Dd (p_at : Int) : Int :=
  (Om (!(Ht p_at)) 1)
def Mq (p_n : Int) : Option (List An):=Chk (decide (0 ≤ p_n) && decide (p_n < 1073741824)) (some ([] : List An))
def Fz (j1 : Int → Option (List An)) : List (List An) → Nat → Int → Option (List An)
  | [],_,x1=>j1 x1
  | y1 :: ys1,i1,x1=>if decide ((W (x1 + (y1.length : Int))) < 0) then
  none
  else
  Fz j1 ys1 (i1 + 1) (W (x1 + (y1.length : Int)))
def Ga (j2 : (List An) → Option (List An)) : List (List An) → Nat → (List An) → Option (List An)
  | [],_,x2=>j2 x2
  | y2 :: ys2,i2,x2=>Chk (decide (x2.length + y2.length < 1073741824)) (
  Ga j2 ys2 (i2 + 1) (x2 ++ y2))
def Kr (p_slices : List (List An)) : Option (List An) :=
  Es (fun (x1 : Int) =>
  Option.bind (Mq x1) (fun r2 =>
  Es (fun (x2 : List An) =>
  some x2) (fun j2 =>
  Ga j2 p_slices 0 r2))) (fun j1 =>
  Fz j1 p_slices 0 0)
def Gk (p_s : List An) (x1 : Int) (j2 : (List An) → Int → Option (List An)) : Nat → (List An) → Int → Int → Option (List An)
  | 0,_,_,_=>none
  | m2 + 1,x2,x3,x4=>if decide (x4 < (((p_s.length : Int).toNat - x1.toNat : Nat) : Int)) then
  Es (fun (x5 : List An) (x6 : Int) =>
  Gk p_s x1 j2 m2 x5 x6 (W (x4 + 1))) (fun j3 =>
  Chk (inB x4 ((p_s.length : Int).toNat - x1.toNat)) (
  Chk (inB (W (x4 - 1)) ((p_s.length : Int).toNat - x1.toNat)) (
  Es (fun (x7 : List An) (x8 : Int) =>
  j3 x7 x8) (fun j4 =>
  if !decide ((nth (cut x2 x1 (p_s.length : Int)) x4) = (nth (cut x2 x1 (p_s.length : Int)) (W (x4 - 1)))) then
  Chk (inB x4 ((p_s.length : Int).toNat - x1.toNat)) (
  Chk (inB x3 x2.length) (
  j4 (x2.set x3.toNat (nth (cut x2 x1 (p_s.length : Int)) x4)) (W (x3 + 1))))
  else
  j4 x2 x3))))
  else
  j2 x2 x3
def Ft (p_s : List An) (j1 : Option (List An)) : Nat → Int → Option (List An)
  | 0,_=>none
  | m1 + 1,x1=>if decide (x1 < (p_s.length : Int)) then
  Chk (inB x1 p_s.length) (
  Chk (inB (W (x1 - 1)) p_s.length) (
  if decide ((nth p_s x1) = (nth p_s (W (x1 - 1)))) then
  Chk (Pf x1 (p_s.length : Int) p_s.length) (
  Es (fun (x2 : List An) (x3 : Int) =>
  Chk (Pf x3 (x2.length : Int) x2.length) (
  Chk (Pf 0 x3 (clr x2 x3 (x2.length : Int) (An.mk 0 0 Cj Cj Cj Cj 0 0)).length) (
  some (cut (clr x2 x3 (x2.length : Int) (An.mk 0 0 Cj Cj Cj Cj 0 0)) (0 : Int) x3)))) (fun j2 =>
  Gk p_s x1 j2 (((((p_s.length : Int).toNat - x1.toNat : Nat) : Int) - 1).toNat + 2) p_s x1 1))
  else
  Ft p_s j1 m1 (W (x1 + 1))))
  else
  j1
def Kf (p_s : List An) : Option (List An) :=
  if decide ((p_s.length : Int) < 2) then
  some p_s
  else
  Es (some p_s) (fun j1 =>
  Ft p_s j1 (((p_s.length : Int) - 1).toNat + 2) 1)
def Fv (r3 : (List An)) (j1 : Option ((List An) × Int)) : List An → Nat → Option ((List An) × Int)
  | [],_=>j1
  | y1 :: ys1,i1=>Es (fun (x1 : Bool) =>
  if x1 then
  some (([] : List An),13)
  else
  Fv r3 j1 ys1 (i1 + 1)) (fun j2 =>
  if decide (0 < (i1 : Int)) then
  Chk (inB (W ((i1 : Int) - 1)) r3.length) (
  j2 (decide ((Df (nth r3 (W ((i1 : Int) - 1))) y1) = 0)))
  else
  j2 false)
def Hx (p_a : List An) (p_b : List An) : Option ((List An) × Int) :=
  Option.bind (Kr ([p_a,p_b] : List (List An))) (fun r1 =>
  Option.bind (Dq r1) (fun r2 =>
  Option.bind (Kf r2) (fun r3 =>
  Es (if decide (1000 < (r3.length : Int)) then
  some (([] : List An),2)
  else
  some (r3,0)) (fun j1 =>
  Fv r3 j1 r3 0))))
def Dp (p_state : Int) (p_kind : Int) : Bool :=
  if decide (p_kind = 1) then
  decide (p_state = 0)
  else
  if decide (p_kind = 2) then
  decide (p_state = 1)
  else
  ((decide (p_state = 1)) || (decide (p_state = 2)))
def Gx (p_id : ByteArray) (j1 : Int → Int) : List An → Nat → Int → Int
  | [],_,x1=>j1 x1
  | y1 :: ys1,i1,x1=>Es (fun (x2 : Int) =>
  Gx p_id j1 ys1 (i1 + 1) x2) (fun j2 =>
  Es (fun (x3 : Int) =>
  j2 x3) (fun j3 =>
  if ((decide (y1.Id = p_id)) && (Dp x1 y1.Kind)) then
  j3 y1.Kind
  else
  j3 x1))
def Il (p_l : List An) (p_id : ByteArray) : Int :=
  Es (fun (x1 : Int) =>
  x1) (fun j1 =>
  Gx p_id j1 p_l 0 0)
def Fo (p_l : List An) (j1 : (List Int) → Option (List Int)) : List An → Nat → (List Int) → Option (List Int)
  | [],_,x1=>j1 x1
  | y1 :: ys1,i1,x1=>Es (fun (x2 : List Int) =>
  Fo p_l j1 ys1 (i1 + 1) x2) (fun j2 =>
  Chk (Pf 0 (i1 : Int) p_l.length) (
  Es (fun (x3 : List Int) =>
  j2 x3) (fun j3 =>
  if !(Dp (Il (cut p_l 0 (i1 : Int)) y1.Id) y1.Kind) then
  Chk (Mw x1.length) (
  j3 (x1 ++ [(i1 : Int)]))
  else
  j3 x1)))
def Gv (p_l : List An) : Option (List Int) :=
  Es (fun (x1 : List Int) =>
  some x1) (fun j1 =>
  Fo p_l j1 p_l 0 ([] : List Int))
def Im (p_at : Int) (j1 : (List An) → Option (List An)) : List An → Nat → (List An) → Option (List An)
  | [],_,x1=>j1 x1
  | y1 :: ys1,i1,x1=>Es (fun (x2 : List An) =>
  Im p_at j1 ys1 (i1 + 1) x2) (fun j2 =>
  Es (fun (x3 : List An) =>
  j2 x3) (fun j3 =>
  if decide (y1.At ≤ p_at) then
  Chk (Mw x1.length) (
  j3 (x1 ++ [y1]))
  else
  j3 x1))
def Mb (p_l : List An) (p_at : Int) : Option (List An) :=
  Es (fun (x1 : List An) =>
  some x1) (fun j1 =>
  Im p_at j1 p_l 0 ([] : List An))
def He (r1 : (List An)) (j1 : (List An) → Option (List An)) : List An → Nat → (List An) → Option (List An)
  | [],_,x1=>j1 x1
  | y1 :: ys1,i1,x1=>Es (fun (x2 : List An) =>
  He r1 j1 ys1 (i1 + 1) x2) (fun j2 =>
  Es (fun (x3 : Bool) =>
  Es (fun (x4 : List An) =>
  j2 x4) (fun j4 =>
  if x3 then
  Chk (Mw x1.length) (
  j4 (x1 ++ [y1]))
  else
  j4 x1)) (fun j3 =>
  if decide (y1.Kind = 1) then
  Chk (Pf 0 (i1 : Int) r1.length) (
  j3 (decide ((Il (cut r1 0 (i1 : Int)) y1.Id) = 0)))
  else
  j3 false))
def Ly (p_l : List An) (p_at : Int) : Option (List An) :=
  Option.bind (Mb p_l p_at) (fun r1 =>
  Es (fun (x1 : List An) =>
  some x1) (fun j1 =>
  He r1 j1 r1 0 ([] : List An)))
def Hf (p_l : List An) (p_at : Int) (j1 : (List ByteArray) → Option (List ByteArray)) : List An → Nat → (List ByteArray) → Option (List ByteArray)
  | [],_,x1=>j1 x1
  | y1 :: ys1,i1,x1=>Es (fun (x2 : List ByteArray) =>
  Hf p_l p_at j1 ys1 (i1 + 1) x2) (fun j2 =>
  Option.bind (Mb p_l p_at) (fun r2 =>
  Es (fun (x3 : List ByteArray) =>
  j2 x3) (fun j3 =>
  if decide ((Il r2 y1.Id) = 1) then
  Chk (Mw x1.length) (
  j3 (x1 ++ [y1.Id]))
  else
  j3 x1)))
def Ja (p_l : List An) (p_at : Int) : Option (List ByteArray) :=
  Option.bind (Ly p_l p_at) (fun r1 =>
  Es (fun (x1 : List ByteArray) =>
  some x1) (fun j1 =>
  Hf p_l p_at j1 r1 0 ([] : List ByteArray)))
def Gh (y1 : Ef) (j4 : Option Int) : List ByteArray → Nat → Option Int
  | [],_=>j4
  | y2 :: ys2,i2=>Option.bind (Jt y2) (fun r5 =>
  if !r5 then
  some 5
  else
  Es (fun (c3 : Bool) =>
  if c3 then
  some 7
  else
  Gh y1 j4 ys2 (i2 + 1)) (fun j5 =>
  if (decide (0 < (i2 : Int))) then Chk (inB (W ((i2 : Int) - 1)) y1.Clubs.length) (
  j5 ((decide (0 < (i2 : Int))) && (Tt y2 (nth y1.Clubs (W ((i2 : Int) - 1))) || decide (y2 = (nth y1.Clubs (W ((i2 : Int) - 1))))))) else j5 ((decide (0 < (i2 : Int))) && true)))
def Gp (p_l : List Ef) (j1 : Option Int) : List Ef → Nat → Option Int
  | [],_=>j1
  | y1 :: ys1,i1=>Option.bind (Jt y1.Key) (fun r2 =>
  Es (fun (c1 : Bool) =>
  if c1 then
  some 5
  else
  Es (fun (c2 : Bool) =>
  if c2 then
  some 7
  else
  if decide (100 < (y1.Clubs.length : Int)) then
  some 2
  else
  Es (if (((decide (y1.Young < 0)) || (decide (y1.Old < y1.Young))) || (decide (150 < y1.Old))) then
  some 1
  else
  Gp p_l j1 ys1 (i1 + 1)) (fun j4 =>
  Gh y1 j4 y1.Clubs 0)) (fun j3 =>
  if (decide (0 < (i1 : Int))) then Chk (inB (W ((i1 : Int) - 1)) p_l.length) (
  j3 ((decide (0 < (i1 : Int))) && (Tt y1.Key ((nth p_l (W ((i1 : Int) - 1))).Key) || decide (y1.Key = ((nth p_l (W ((i1 : Int) - 1))).Key))))) else j3 ((decide (0 < (i1 : Int))) && true))) (fun j2 =>
  if (!r2) then j2 ((!r2) || true) else Option.bind (Jt y1.Race) (fun r3 =>
  j2 ((!r2) || (!r3)))))
def Jp (p_l : List Ef) : Option Int :=
  if decide (50 < (p_l.length : Int)) then
  some 2
  else
  Es (some 0) (fun j1 =>
  Gp p_l j1 p_l 0)
def Fu (y1 : Ef) (j3 : Option Int) : List ByteArray → Nat → Option Int
  | [],_=>j3
  | y2 :: ys2,i2=>Option.bind (Ic y2) (fun r4 =>
  if !r4 then
  some 5
  else
  Es (fun (c2 : Bool) =>
  if c2 then
  some 7
  else
  Fu y1 j3 ys2 (i2 + 1)) (fun j4 =>
  if (decide (0 < (i2 : Int))) then Chk (inB (W ((i2 : Int) - 1)) y1.Clubs.length) (
  j4 ((decide (0 < (i2 : Int))) && (Tt y2 (nth y1.Clubs (W ((i2 : Int) - 1))) || decide (y2 = (nth y1.Clubs (W ((i2 : Int) - 1))))))) else j4 ((decide (0 < (i2 : Int))) && true)))
def Gf (j1 : Option Int) : List Ef → Nat → ByteArray → Option Int
  | [],_,_=>j1
  | y1 :: ys1,i1,x1=>Option.bind (Ic y1.Key) (fun r2 =>
  Es (fun (c1 : Bool) =>
  if c1 then
  some 5
  else
  if (Tt y1.Key x1 || decide (y1.Key = x1)) then
  some 7
  else
  if decide (100 < (y1.Clubs.length : Int)) then
  some 2
  else
  Es (if ((!(Em y1.Young 0 y1.Old)) || (decide (150 < y1.Old))) then
  some 1
  else
  Gf j1 ys1 (i1 + 1) y1.Key) (fun j3 =>
  Fu y1 j3 y1.Clubs 0)) (fun j2 =>
  if (!r2) then j2 ((!r2) || true) else Option.bind (Ic y1.Race) (fun r3 =>
  j2 ((!r2) || (!r3)))))
def Js (p_l : List Ef) : Option Int :=
  if decide (50 < (p_l.length : Int)) then
  some 2
  else
  Es (some 0) (fun j1 =>
  Gf j1 p_l 0 Cj)
def Hc (p_s2 : List An) (j1 : Option Bool) : List An → Nat → Option Bool
  | [],_=>j1
  | y1 :: ys1,i1=>Chk (inB (i1 : Int) p_s2.length) (
  if !decide (y1 = (nth p_s2 (i1 : Int))) then
  some false
  else
  Hc p_s2 j1 ys1 (i1 + 1))
def Kc (p_s1 : List An) (p_s2 : List An) : Option Bool :=
  if !decide ((p_s1.length : Int) = (p_s2.length : Int)) then
  some false
  else
  Es (some true) (fun j1 =>
  Hc p_s2 j1 p_s1 0)
def Hk (p_s2 : List Int) (j1 : Option Bool) : List Int → Nat → Option Bool
  | [],_=>j1
  | y1 :: ys1,i1=>Chk (inB (i1 : Int) p_s2.length) (
  if !decide (y1 = (nth p_s2 (i1 : Int))) then
  some false
  else
  Hk p_s2 j1 ys1 (i1 + 1))
def Km (p_s1 : List Int) (p_s2 : List Int) : Option Bool :=
  if !decide ((p_s1.length : Int) = (p_s2.length : Int)) then
  some false
  else
  Es (some true) (fun j1 =>
  Hk p_s2 j1 p_s1 0)
def Gl (p_s2 : List ByteArray) (j1 : Option Bool) : List ByteArray → Nat → Option Bool
  | [],_=>j1
  | y1 :: ys1,i1=>Chk (inB (i1 : Int) p_s2.length) (
  if !decide (y1 = (nth p_s2 (i1 : Int))) then
  some false
  else
  Gl p_s2 j1 ys1 (i1 + 1))
def Ir (p_s1 : List ByteArray) (p_s2 : List ByteArray) : Option Bool :=
  if !decide ((p_s1.length : Int) = (p_s2.length : Int)) then
  some false
  else
  Es (some true) (fun j1 =>
  Gl p_s2 j1 p_s1 0)
def Ok (p_s : An) : Option Int :=
  Option.bind (Hl p_s) (fun r1 =>
  if !decide (r1 = 0) then
  some r1
  else
  if !decide (p_s.Kind = 1) then
  some 4
  else
  some 0)
def Hd (p_v : ByteArray) (j1 : Int) : List ByteArray → Nat → Int
  | [],_=>j1
  | y1 :: ys1,i1=>if decide (p_v = y1) then
  (i1 : Int)
  else
  Hd p_v j1 ys1 (i1 + 1)
def Ms (p_s : List ByteArray) (p_v : ByteArray) : Int :=
  Es ((-1)) (fun j1 =>
  Hd p_v j1 p_s 0)
def Gm (p_s : List ByteArray) (p_v : ByteArray) : Bool :=
  decide (0 ≤ (Ms p_s p_v))
def Rc (p_k : Ef) (p_s : An) : Bool :=
  (((decide (p_s.Race = p_k.Race)) && ((decide ((p_k.Clubs.length : Int) = 0)) || (Gm p_k.Clubs p_s.Club))) && (Jm p_s.Age p_k.Young p_k.Old))
def Kl (p_s : An) (j1 : (List ByteArray) → Option ((List ByteArray) × Int)) : List Ef → Nat → (List ByteArray) → Option ((List ByteArray) × Int)
  | [],_,x1=>j1 x1
  | y1 :: ys1,i1,x1=>Es (fun (x2 : List ByteArray) =>
  Kl p_s j1 ys1 (i1 + 1) x2) (fun j2 =>
  Es (fun (x3 : List ByteArray) =>
  j2 x3) (fun j3 =>
  if (Rc y1 p_s) then
  Chk (Mw x1.length) (
  j3 (x1 ++ [y1.Key]))
  else
  j3 x1))
def Th (p_l : List Ef) (p_s : An) : Option ((List ByteArray) × Int) :=
  Option.bind (Jp p_l) (fun r1 =>
  if !decide (r1 = 0) then
  some (([] : List ByteArray),r1)
  else
  Option.bind (Ok p_s) (fun r2 =>
  if !decide (r2 = 0) then
  some (([] : List ByteArray),r2)
  else
  Es (fun (x1 : List ByteArray) =>
  some (x1,0)) (fun j1 =>
  Kl p_s j1 p_l 0 ([] : List ByteArray))))
def La : Option Bool :=
  Option.bind (Th ([(Ef.mk k_k k_r ([] : List ByteArray) 0 9)] : List Ef) (An.mk 0 1 k_i k_a Cj k_r 0 5)) (fun r1 =>
  Es (fun (c1 : Bool) =>
  some c1) (fun j1 =>
  if (decide (r1.2 = 0)) then Option.bind (Ir r1.1 [k_k]) (fun r2 =>
  j1 ((decide (r1.2 = 0)) && r2)) else j1 ((decide (r1.2 = 0)) && true)))
def Ki (p_l : List Int) : Option Bool :=
  Option.bind (Nw p_l 0) (fun r1 =>
  Option.bind (Kz p_l r1.2 0 14) (fun r2 =>
  Option.bind (Mp p_l r2.2 r2.1) (fun r3 =>
  Option.bind (Kz p_l r3.2 0 6) (fun r4 =>
  Option.bind (Mp p_l r4.2 r4.1) (fun r5 =>
  Option.bind (Jg p_l r5.2 [0,3,10,60,(-1)]) (fun r6 =>
  Es (fun (x1 : Int) (x2 : Bool) =>
  Es (fun (x3 : List An) =>
  Option.bind (Jn r3.1 x3) (fun r11 =>
  Option.bind (Jx r3.1) (fun r12 =>
  Option.bind (Nq r3.1 r6.1) (fun r13 =>
  Option.bind (Hy r3.1) (fun r14 =>
  Option.bind (Hy x3) (fun r15 =>
  Es (fun (x5 : Int) (x6 : List An) =>
  Es (fun (x7 : List Int) =>
  Es (fun (x8 : List ByteArray) =>
  Option.bind (Jp r1.1) (fun r19 =>
  Option.bind (Js r1.1) (fun r20 =>
  Es (fun (c1 : Bool) =>
  Es (fun (c2 : Bool) =>
  Es (fun (c3 : Bool) =>
  Es (fun (c4 : Bool) =>
  Es (fun (c5 : Bool) =>
  some c5) (fun j11 =>
  if c4 then Option.bind (La) (fun r25 =>
  j11 (c4 && r25)) else j11 (c4 && true))) (fun j10 =>
  if (c3 && (decide (r13.2 = (Du [r14,(Dd r6.1)])))) then Option.bind (Ir r13.1 x8) (fun r24 =>
  j10 ((c3 && (decide (r13.2 = (Du [r14,(Dd r6.1)])))) && r24)) else j10 ((c3 && (decide (r13.2 = (Du [r14,(Dd r6.1)])))) && true))) (fun j9 =>
  if (c2 && (decide (r12.2 = r14))) then Option.bind (Km r12.1 x7) (fun r23 =>
  j9 ((c2 && (decide (r12.2 = r14))) && r23)) else j9 ((c2 && (decide (r12.2 = r14))) && true))) (fun j8 =>
  if (c1 && (decide (r11.2 = x5))) then Option.bind (Kc r11.1 x6) (fun r22 =>
  j8 ((c1 && (decide (r11.2 = x5))) && r22)) else j8 ((c1 && (decide (r11.2 = x5))) && true))) (fun j7 =>
  if (decide (r19 = r20)) then Option.bind (Ec r3.1) (fun r21 =>
  j7 ((decide (r19 = r20)) && (decide (r21 = r14)))) else j7 ((decide (r19 = r20)) && true))))) (fun j6 =>
  if decide ((Du [r14,(Dd r6.1)]) = 0) then
  Option.bind (Ja r3.1 r6.1) (fun r18 =>
  j6 r18)
  else
  j6 ([] : List ByteArray))) (fun j5 =>
  if decide (r14 = 0) then
  Option.bind (Gv r3.1) (fun r17 =>
  j5 r17)
  else
  j5 ([] : List Int))) (fun j4 =>
  if decide ((Du [r14,r15]) = 0) then
  Option.bind (Hx r3.1 x3) (fun r16 =>
  j4 r16.2 r16.1)
  else
  j4 (Du [r14,r15]) ([] : List An)))))))) (fun j2 =>
  if x2 then
  Option.bind (Jf p_l x1 (r3.1.length : Int)) (fun r8 =>
  Chk (Pf r8.1 (r3.1.length : Int) r3.1.length) (
  Option.bind (Ib (cut r3.1 r8.1 r3.1.length)) (fun r9 =>
  Option.bind (Iv p_l r8.2 4) (fun r10 =>
  Es (fun (x4 : List An) =>
  j2 x4) (fun j3 =>
  if r10.1 then
  Chk (inB 0 r9.length) (
  Chk (inB 0 r9.length) (
  j3 (r9.set ((0 : Int).toNat) (An.mk ((nth r9 0).At) ((nth r9 0).Kind) ((nth r9 0).Id) ((nth r9 0).Who) ((nth r9 0).Club) ((nth r9 0).Race) ((nth r9 0).Age) (W (((nth r9 0).Time) + 1))))))
  else
  j3 r9)))))
  else
  j2 r5.1)) (fun j1 =>
  if (decide (0 < (r3.1.length : Int))) then
  Option.bind (Iv p_l r6.2 2) (fun r7 =>
  j1 r7.2 r7.1)
  else
  j1 r6.2 false)))))))
theorem twin_eqs : True:=by
  have h:=@Gn.eq_def; clear h; have h:=@Gn.eq_1; clear h; have h:=@Gn.eq_2; clear h
  have h:=@Gg.eq_def; clear h; have h:=@Gg.eq_1; clear h; have h:=@Gg.eq_2; clear h
  have h:=@Cp.eq_def; clear h; have h:=@Cp.eq_1; clear h; have h:=@Cp.eq_2; clear h
  have h:=@Cr.eq_def; clear h; have h:=@Cr.eq_1; clear h; have h:=@Cr.eq_2; clear h
  have h:=@Cx.eq_def; clear h; have h:=@Cx.eq_1; clear h; have h:=@Cx.eq_2; clear h
  have h:=@Dg.eq_def; clear h; have h:=@Dg.eq_1; clear h; have h:=@Dg.eq_2; clear h
  have h:=@Cz.eq_def; clear h; have h:=@Cz.eq_1; clear h; have h:=@Cz.eq_2; clear h
  have h:=@Cu.eq_def; clear h; have h:=@Cu.eq_1; clear h; have h:=@Cu.eq_2; clear h
  have h:=@Da.eq_def; clear h; have h:=@Da.eq_1; clear h; have h:=@Da.eq_2; clear h
  have h:=@Cv.eq_def; clear h; have h:=@Cv.eq_1; clear h; have h:=@Cv.eq_2; clear h
  have h:=@Cw.eq_def; clear h; have h:=@Cw.eq_1; clear h; have h:=@Cw.eq_2; clear h
  have h:=@Db.eq_def; clear h; have h:=@Db.eq_1; clear h; have h:=@Db.eq_2; clear h
  have h:=@Dk.eq_def; clear h; have h:=@Dk.eq_1; clear h; have h:=@Dk.eq_2; clear h
  have h:=@Dc.eq_def; clear h; have h:=@Dc.eq_1; clear h; have h:=@Dc.eq_2; clear h
  have h:=@Dw.eq_def; clear h; have h:=@Dw.eq_1; clear h; have h:=@Dw.eq_2; clear h
  have h:=@Dn.eq_def; clear h; have h:=@Dn.eq_1; clear h; have h:=@Dn.eq_2; clear h
  have h:=@Gd.eq_def; clear h; have h:=@Gd.eq_1; clear h; have h:=@Gd.eq_2; clear h
  have h:=@Ii.eq_def; clear h; have h:=@Ii.eq_1; clear h; have h:=@Ii.eq_2; clear h
  have h:=@Er.eq_def; clear h; have h:=@Er.eq_1; clear h; have h:=@Er.eq_2; clear h
  have h:=@Dh.eq_def; clear h; have h:=@Dh.eq_1; clear h; have h:=@Dh.eq_2; clear h
  have h:=@Hb.eq_def; clear h; have h:=@Hb.eq_1; clear h; have h:=@Hb.eq_2; clear h
  have h:=@Hm.eq_def; clear h; have h:=@Hm.eq_1; clear h; have h:=@Hm.eq_2; clear h
  have h:=@Jo.eq_def; clear h; have h:=@Jo.eq_1; clear h; have h:=@Jo.eq_2; clear h
  have h:=@Hn.eq_def; clear h; have h:=@Hn.eq_1; clear h; have h:=@Hn.eq_2; clear h
  have h:=@Fq.eq_def; clear h; have h:=@Fq.eq_1; clear h; have h:=@Fq.eq_2; clear h
  have h:=@Gq.eq_def; clear h; have h:=@Gq.eq_1; clear h; have h:=@Gq.eq_2; clear h
  have h:=@Fz.eq_def; clear h; have h:=@Fz.eq_1; clear h; have h:=@Fz.eq_2; clear h
  have h:=@Ga.eq_def; clear h; have h:=@Ga.eq_1; clear h; have h:=@Ga.eq_2; clear h
  have h:=@Gk.eq_def; clear h; have h:=@Gk.eq_1; clear h; have h:=@Gk.eq_2; clear h
  have h:=@Ft.eq_def; clear h; have h:=@Ft.eq_1; clear h; have h:=@Ft.eq_2; clear h
  have h:=@Fv.eq_def; clear h; have h:=@Fv.eq_1; clear h; have h:=@Fv.eq_2; clear h
  have h:=@Gx.eq_def; clear h; have h:=@Gx.eq_1; clear h; have h:=@Gx.eq_2; clear h
  have h:=@Fo.eq_def; clear h; have h:=@Fo.eq_1; clear h; have h:=@Fo.eq_2; clear h
  have h:=@Im.eq_def; clear h; have h:=@Im.eq_1; clear h; have h:=@Im.eq_2; clear h
  have h:=@He.eq_def; clear h; have h:=@He.eq_1; clear h; have h:=@He.eq_2; clear h
  have h:=@Hf.eq_def; clear h; have h:=@Hf.eq_1; clear h; have h:=@Hf.eq_2; clear h
  have h:=@Gh.eq_def; clear h; have h:=@Gh.eq_1; clear h; have h:=@Gh.eq_2; clear h
  have h:=@Gp.eq_def; clear h; have h:=@Gp.eq_1; clear h; have h:=@Gp.eq_2; clear h
  have h:=@Fu.eq_def; clear h; have h:=@Fu.eq_1; clear h; have h:=@Fu.eq_2; clear h
  have h:=@Gf.eq_def; clear h; have h:=@Gf.eq_1; clear h; have h:=@Gf.eq_2; clear h
  have h:=@Hc.eq_def; clear h; have h:=@Hc.eq_1; clear h; have h:=@Hc.eq_2; clear h
  have h:=@Hk.eq_def; clear h; have h:=@Hk.eq_1; clear h; have h:=@Hk.eq_2; clear h
  have h:=@Gl.eq_def; clear h; have h:=@Gl.eq_1; clear h; have h:=@Gl.eq_2; clear h
  have h:=@Hd.eq_def; clear h; have h:=@Hd.eq_1; clear h; have h:=@Hd.eq_2; clear h
  have h:=@Kl.eq_def; clear h; have h:=@Kl.eq_1; clear h; have h:=@Kl.eq_2; clear h
  have h:=@Cm.eq_def; clear h; have h:=@Cm.eq_1; clear h; have h:=@Cm.eq_2; clear h
  trivial
end
end Go.Proofs.YtgfjjiheamdgbaaGreatDoor
