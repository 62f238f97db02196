/- The Go functions as plain Lean functions,by program. -/
import Derived.Test.YtcmlfgcnichcdaaGreatDoorBase
namespace Go.Proofs.YtcmlfgcnichcdaaGreatDoor
open Go
noncomputable section
structure EA where
  L : List Int
  at_ : Int
  deriving DecidableEq,Inhabited
structure An where
  Site : ByteArray
  No : Int
  At : Int
  Kind : Int
  Who : ByteArray
  Club : ByteArray
  Race : ByteArray
  Time : Int
  Fault : Int
  Of : ByteArray
  Other : Int
  deriving DecidableEq,Inhabited
structure Cz where
  site_ : ByteArray
  no_ : Int
  deriving DecidableEq,Inhabited
structure Ed where
  Key : ByteArray
  Metres : Int
  Stroke : Int
  Course : Int
  Legs : Int
  Sex : Int
  Young : Int
  Old : Int
  deriving DecidableEq,Inhabited
structure Pz where
  Points : List Int
  Relay : Int
  Most : Int
  deriving DecidableEq,Inhabited
structure Lq where
  Size : Int
  Many : Int
  Reserves : Int
  deriving DecidableEq,Inhabited
structure Lt where
  Races : List Ed
  Table : Pz
  Final : Lq
  deriving DecidableEq,Inhabited
structure Ib where
  p_ : Lt
  deeds_ : List An
  deriving DecidableEq,Inhabited
structure Kx where
  Who : ByteArray
  Time : Int
  deriving DecidableEq,Inhabited
def Cw : ByteArray:=⟨#[]⟩
def Mx : ByteArray:=⟨#[115,97]⟩
def Vt : ByteArray:=⟨#[115,98]⟩
def Rq : ByteArray:=⟨#[97,110,110]⟩
def Xf : ByteArray:=⟨#[98,101,97]⟩
def Xg : ByteArray:=⟨#[99,105,100]⟩
def Xh : ByteArray:=⟨#[100,97,110]⟩
def Sg : ByteArray:=⟨#[114,97]⟩
def BS : ByteArray:=⟨#[114,98]⟩
def BT : ByteArray:=⟨#[114,122]⟩
def Ph : ByteArray:=⟨#[98,108,117,101]⟩
def Xi : ByteArray:=⟨#[114,101,100]⟩
def k_A : ByteArray:=⟨#[65]⟩
def Hf : ByteArray:=⟨#[97,98,99,100,101,102,103,104,105,106,107,108,109,110,111,112,113,114,115,116,117,118,119,120,121,122]⟩
def Fj : ByteArray:=⟨#[97,98,99,100,101,102,103,104,105,106,107,108,109,110,111,112,113,114,115,116,117,118,119,120,121,122,48,49,50,51,52,53,54,55,56,57,45,95]⟩
def k_r : ByteArray:=⟨#[114]⟩
def k_s : ByteArray:=⟨#[115]⟩
def k_a : ByteArray:=⟨#[97]⟩
def Lb : ByteArray:=⟨#[0,1,2,2,3,3,3,3,4,4,4,4,4,4,4,4,5,5,5,5,5,5,5,5,5,5,5,5,5,5,5,5,6,6,6,6,6,6,6,6,6,6,6,6,6,6,6,6,6,6,6,6,6,6,6,6,6,6,6,6,6,6,6,6,7,7,7,7,7,7,7,7,7,7,7,7,7,7,7,7,7,7,7,7,7,7,7,7,7,7,7,7,7,7,7,7,7,7,7,7,7,7,7,7,7,7,7,7,7,7,7,7,7,7,7,7,7,7,7,7,7,7,7,7,7,7,7,7,8,8,8,8,8,8,8,8,8,8,8,8,8,8,8,8,8,8,8,8,8,8,8,8,8,8,8,8,8,8,8,8,8,8,8,8,8,8,8,8,8,8,8,8,8,8,8,8,8,8,8,8,8,8,8,8,8,8,8,8,8,8,8,8,8,8,8,8,8,8,8,8,8,8,8,8,8,8,8,8,8,8,8,8,8,8,8,8,8,8,8,8,8,8,8,8,8,8,8,8,8,8,8,8,8,8,8,8,8,8,8,8,8,8,8,8,8,8,8,8,8,8,8,8,8,8,8,8]⟩
def Ll (p_x : Int) (p_n : Int) : Option Int :=
  if decide (p_n < 1) then
  some 0
  else
  Chk (!decide (p_n = 0)) (
  Fu (fun (x1 : Int) =>
  some x1) (fun j1 =>
  if decide ((Int.tmod p_x p_n) < 0) then
  j1 (W ((Int.tmod p_x p_n) + p_n))
  else
  j1 (Int.tmod p_x p_n)))
def Ke (p_s_L : List Int) (p_s_at : Int) (p_n : Int) : Option (Int × Int) :=
  if decide ((p_s_L.length : Int) = 0) then
  Option.bind (Ll (W ((W (p_s_at + 1)) * 7919)) p_n) (fun r1 =>
  some (r1,W (p_s_at + 1)))
  else
  Chk (!decide ((p_s_L.length : Int) = 0)) (
  Chk (!decide ((p_s_L.length : Int) = 0)) (
  Chk (inB (Int.tmod (W ((W (p_s_at + 1)) - 1)) (p_s_L.length : Int)) p_s_L.length) (
  Option.bind (Ll (nth p_s_L (Int.tmod (W ((W (p_s_at + 1)) - 1)) (p_s_L.length : Int))) 1073741824) (fun r2 =>
  Option.bind (Ll (W (r2 + (W ((W (Int.tdiv (W ((W (p_s_at + 1)) - 1)) (p_s_L.length : Int))) * (W (7919 + (Int.tmod (W ((W (p_s_at + 1)) - 1)) (p_s_L.length : Int)))))))) p_n) (fun r3 =>
  some (r3,W (p_s_at + 1)))))))
def Lc (p_s_L : List Int) (p_s_at : Int) (p_low : Int) (p_high : Int) : Option (Int × Int) :=
  if decide (p_high < p_low) then
  some (p_low,p_s_at)
  else
  Option.bind (Ke p_s_L p_s_at (W ((W (p_high - p_low)) + 1))) (fun r1 =>
  some (W (p_low + r1.1),r1.2))
def Kf (p_s_L : List Int) (p_s_at : Int) (p_l : List Int) : Option (Int × Int) :=
  Option.bind (Ke p_s_L p_s_at (p_l.length : Int)) (fun r1 =>
  Chk (inB r1.1 p_l.length) (
  some ((nth p_l r1.1),r1.2)))
def Js (p_s_L : List Int) (p_s_at : Int) (p_l : List ByteArray) : Option (ByteArray × Int) :=
  Option.bind (Ke p_s_L p_s_at (p_l.length : Int)) (fun r1 =>
  Chk (inB r1.1 p_l.length) (
  some ((nth p_l r1.1),r1.2)))
def Kg (p_s_L : List Int) (p_s_at : Int) (p_n : Int) : Option (Bool × Int) :=
  Option.bind (Ke p_s_L p_s_at p_n) (fun r1 =>
  some (decide (r1.1 = 0),r1.2))
def Ms (p_s_L : List Int) (p_s_at : Int) (p_low : Int) (p_high : Int) : Option (Int × Int) :=
  Option.bind (Kg p_s_L p_s_at 12) (fun r1 =>
  if r1.1 then
  Option.bind (Kf p_s_L r1.2 [W (p_low - 1),W (p_high + 1),p_low,p_high,(-1099511627776),1099511627776]) (fun r2 =>
  some (r2.1,r2.2))
  else
  Option.bind (Lc p_s_L r1.2 p_low p_high) (fun r3 =>
  some (r3.1,r3.2)))
def Lg (p_n : Int) : Int :=
  if decide (p_n < 0) then
  (-1)
  else
  if decide (0 < p_n) then
  1
  else
  0
def Gi (s t : ByteArray) : Int:=Lib.compareBytes s.data.toList t.data.toList
def Ea (p_a : An) (p_b : An) : Int :=
  if !decide (p_a.At = p_b.At) then
  (Lg (W (p_a.At - p_b.At)))
  else
  if !decide (p_a.Site = p_b.Site) then
  (Gi p_a.Site p_b.Site)
  else
  (Lg (W (p_a.No - p_b.No)))
def Dh (p_a : Int) (j2 : (List An) → Option (List An)) : Nat → (List An) → Int → Option (List An)
  | 0,_,_=>none
  | m2 + 1,x3,x4=>Fu (fun (x5 : Bool) =>
  if x5 then
  Chk (inB (W (x4 - 1)) x3.length) (
  Chk (inB x4 x3.length) (
  Chk (inB x4 x3.length) (
  Chk (inB (W (x4 - 1)) (x3.set x4.toNat (nth x3 (W (x4 - 1)))).length) (
  Dh p_a j2 m2 ((x3.set x4.toNat (nth x3 (W (x4 - 1)))).set ((W (x4 - 1)).toNat) (nth x3 x4)) (W (x4 - 1))))))
  else
  j2 x3) (fun j3 =>
  if decide (p_a < x4) then
  Chk (inB x4 x3.length) (
  Chk (inB (W (x4 - 1)) x3.length) (
  j3 (decide ((Ea (nth x3 x4) (nth x3 (W (x4 - 1)))) < 0))))
  else
  j3 false)
def Dp (p_b : Int) (p_a : Int) (j1 : (List An) → Option (List An)) : Nat → (List An) → Int → Option (List An)
  | 0,_,_=>none
  | m1 + 1,x1,x2=>if decide (x2 < p_b) then
  Fu (fun (x3 : List An) =>
  Dp p_b p_a j1 m1 x3 (W (x2 + 1))) (fun j2 =>
  Dh p_a j2 ((x2 - p_a).toNat + 2) x1 x2)
  else
  j1 x1
def Eo (p_data : List An) (p_a : Int) (p_b : Int) : Option (List An) :=
  Fu (fun (x1 : List An) =>
  some x1) (fun j1 =>
  Dp p_b p_a j1 ((p_b - (W (p_a + 1))).toNat + 2) p_data (W (p_a + 1)))
def Du (p_n : Int) (j1 : (List An) → Int → Option (List An)) : Nat → (List An) → Int → Int → Option (List An)
  | 0,_,_,_=>none
  | m1 + 1,x1,x2,x3=>if decide (x3 ≤ p_n) then
  Option.bind (Eo x1 x2 x3) (fun r1 =>
  Du p_n j1 m1 r1 x3 (W (x3 + 20)))
  else
  j1 x1 x2
def Ei (p_n : Int) (j3 : Int → Option (List An)) : Nat → Int → Int → Option (List An)
  | 0,_,_=>none
  | _ + 1,x5,x6=>if decide (x6 ≤ p_n) then
  none
  else
  j3 x5
def Dv (p_n : Int) (j2 : Option (List An)) : Nat → Int → Option (List An)
  | 0,_=>none
  | m2 + 1,x4=>if decide (x4 < p_n) then
  Fu (fun (x5 : Int) =>
  if decide ((W (x5 + x4)) < p_n) then
  none
  else
  Dv p_n j2 m2 (W (x4 * 2))) (fun j3 =>
  Ei p_n j3 ((p_n - (W (2 * x4))).toNat + 2) 0 (W (2 * x4)))
  else
  j2
def Gn (p_data : List An) (p_n : Int) : Option (List An) :=
  Fu (fun (x1 : List An) (x2 : Int) =>
  Option.bind (Eo x1 x2 p_n) (fun r2 =>
  Fu (some r2) (fun j2 =>
  Dv p_n j2 ((p_n - 20).toNat + 2) 20))) (fun j1 =>
  Du p_n j1 ((p_n - 20).toNat + 2) p_data 0 20)
def Ez (p_x : List An) : Option (List An) :=
  Option.bind (Gn p_x (p_x.length : Int)) (fun r1 =>
  some r1)
def Jb (p_many : Int) (p_s_L : List Int) (j1 : (List (ByteArray × Int)) → (List An) → Int → Option ((List An) × Int)) : Nat → (List (ByteArray × Int)) → (List An) → Int → Int → Int → Option ((List An) × Int)
  | 0,_,_,_,_,_=>none
  | m1 + 1,x1,x2,x3,x4,x5=>if decide (x5 < p_many) then
  Option.bind (Kf p_s_L x3 [0,1,5]) (fun r1 =>
  Option.bind (Js p_s_L r1.2 [Mx,Mx,Vt]) (fun r2 =>
  Option.bind (Kf p_s_L r2.2 [1,1,1,3,3,3,2,4]) (fun r3 =>
  Fu (fun (x6 : ByteArray) (x7 : ByteArray) (x8 : Int) =>
  Fu (fun (x9 : ByteArray) (x10 : Int) (x11 : Int) (x12 : ByteArray) (x13 : Int) (x14 : Int) =>
  Option.bind (Kg p_s_L x14 100) (fun r12 =>
  Fu (fun (x29 : ByteArray) (x30 : Int) (x31 : Int) (x32 : ByteArray) (x33 : ByteArray) (x34 : ByteArray) (x35 : Int) (x36 : Int) (x37 : Int) (x38 : Int) =>
  Chk (Px x2.length) (
  Jb p_many p_s_L j1 m1 (Ff x1 r2.1 (W ((Dw x1 r2.1 0) + 1))) (x2 ++ [(An.mk x29 x30 (W (x4 + r1.1)) x31 x32 x33 x34 x35 x36 x12 x37)]) x38 (W (x4 + r1.1)) (W (x5 + 1)))) (fun j7 =>
  if r12.1 then
  Option.bind (Ke p_s_L r12.2 4) (fun r13 =>
  Fu (fun (x39 : ByteArray) (x40 : Int) (x41 : Int) (x42 : ByteArray) (x43 : ByteArray) (x44 : ByteArray) (x45 : Int) (x46 : Int) (x47 : Int) (x48 : Int) =>
  j7 x39 x40 x41 x42 x43 x44 x45 x46 x47 x48) (fun j8 =>
  Fu (fun (x49 : ByteArray) (x50 : Int) (x51 : Int) (x52 : ByteArray) (x53 : ByteArray) (x54 : ByteArray) (x55 : Int) (x56 : Int) (x57 : Int) (x58 : Int) =>
  j8 x49 x50 x51 x52 x53 x54 x55 x56 x57 x58) (fun j9 =>
  if decide (r13.1 = 0) then
  Option.bind (Js p_s_L r13.2 [Cw,Mx]) (fun r14 =>
  Option.bind (Ms p_s_L r14.2 1 9) (fun r15 =>
  j9 r14.1 r15.1 r3.1 x6 x9 x7 x10 x11 x13 r15.2))
  else
  Fu (fun (x59 : Int) (x60 : ByteArray) (x61 : ByteArray) (x62 : ByteArray) (x63 : Int) (x64 : Int) (x65 : Int) (x66 : Int) =>
  j9 r2.1 (Dw (Ff x1 r2.1 (W ((Dw x1 r2.1 0) + 1))) r2.1 0) x59 x60 x61 x62 x63 x64 x65 x66) (fun j10 =>
  if decide (r13.1 = 1) then
  Option.bind (Ms p_s_L r13.2 1 4) (fun r16 =>
  j10 r16.1 x6 x9 x7 x10 x11 x13 r16.2)
  else
  Fu (fun (x67 : ByteArray) (x68 : ByteArray) (x69 : ByteArray) (x70 : Int) (x71 : Int) (x72 : Int) (x73 : Int) =>
  j10 r3.1 x67 x68 x69 x70 x71 x72 x73) (fun j11 =>
  if decide (r13.1 = 2) then
  Option.bind (Js p_s_L r13.2 [Cw,Rq]) (fun r17 =>
  Option.bind (Js p_s_L r17.2 [k_A,Ph]) (fun r18 =>
  Option.bind (Js p_s_L r18.2 [Cw,Sg]) (fun r19 =>
  j11 r17.1 r18.1 r19.1 x10 x11 x13 r19.2)))
  else
  Option.bind (Ms p_s_L r13.2 0 360000) (fun r20 =>
  Option.bind (Ms p_s_L r20.2 0 8) (fun r21 =>
  Option.bind (Ms p_s_L r21.2 0 5) (fun r22 =>
  j11 x6 x9 x7 r20.1 r21.1 r22.1 r22.2))))))))
  else
  j7 r2.1 (Dw (Ff x1 r2.1 (W ((Dw x1 r2.1 0) + 1))) r2.1 0) r3.1 x6 x9 x7 x10 x11 x13 r12.2))) (fun j3 =>
  Fu (fun (x15 : ByteArray) (x16 : Int) (x17 : Int) (x18 : ByteArray) (x19 : Int) (x20 : Int) =>
  j3 x15 x16 x17 x18 x19 x20) (fun j4 =>
  if decide (r3.1 = 1) then
  Option.bind (Js p_s_L x8 [Ph,Xi,Cw]) (fun r6 =>
  Option.bind (Kf p_s_L r6.2 [0,5900,6000,7000]) (fun r7 =>
  j4 r6.1 r7.1 0 Cw 0 r7.2))
  else
  Fu (fun (x21 : Int) (x22 : Int) (x23 : ByteArray) (x24 : Int) (x25 : Int) =>
  j4 Cw x21 x22 x23 x24 x25) (fun j5 =>
  if decide (r3.1 = 3) then
  Option.bind (Kf p_s_L x8 [0,5900,5900,6000,6100]) (fun r8 =>
  Option.bind (Kf p_s_L r8.2 [0,0,0,0,3]) (fun r9 =>
  j5 r8.1 r9.1 Cw 0 r9.2))
  else
  Fu (fun (x26 : ByteArray) (x27 : Int) (x28 : Int) =>
  j5 0 0 x26 x27 x28) (fun j6 =>
  if decide (r3.1 = 4) then
  Option.bind (Js p_s_L x8 [Mx,Mx,Vt]) (fun r10 =>
  Option.bind (Lc p_s_L r10.2 1 (Ud 1 (Dw (Ff x1 r2.1 (W ((Dw x1 r2.1 0) + 1))) Mx 0))) (fun r11 =>
  j6 r10.1 r11.1 r11.2))
  else
  j6 Cw 0 x8))))) (fun j2 =>
  if !decide (r3.1 = 4) then
  Option.bind (Js p_s_L r3.2 [Rq,Xf,Xg,Xh]) (fun r4 =>
  Option.bind (Js p_s_L r4.2 [Sg,Sg,BS,BT]) (fun r5 =>
  j2 r4.1 r5.1 r5.2))
  else
  j2 Cw Cw r3.2))))
  else
  j1 x1 x2 x3
def Le (p_s_L : List Int) (p_s_at : Int) (p_many : Int) : Option ((List An) × Int) :=
  Fu (fun (x1 : List (ByteArray × Int)) (x2 : List An) (x3 : Int) =>
  Option.bind (Ez x2) (fun r23 =>
  some (r23,x3))) (fun j1 =>
  Jb p_many p_s_L j1 ((p_many - 0).toNat + 2) ([] : List (ByteArray × Int)) ([] : List An) p_s_at 0 0)
def My (p_s_L : List Int) (p_s_at : Int) : Option (Int × Int) :=
  Option.bind (Kf p_s_L p_s_at [0,3,10,20,40,60,60,(-1)]) (fun r1 =>
  some (r1.1,r1.2))
def Fh (p_s : List An) : Option (List An) :=
  Chk (decide ((([] : List An) : List An).length + p_s.length < 1073741824)) (
  some ((([] : List An) : List An) ++ p_s))
def Ha (p_n : Int) (p_low : Int) (p_high : Int) : Bool :=
  ((decide (p_low ≤ p_n)) && (decide (p_n ≤ p_high)))
def Ni (s : ByteArray) (c : Int) : Int:=Lib.indexByte s.data.toList c.toNat.toUInt8
def Hs (p_s : ByteArray) (p_some : ByteArray) (j1 : Option Bool) : Nat → Int → Option Bool
  | 0,_=>none
  | m1 + 1,x1=>if decide (x1 < (p_s.size : Int)) then
  Chk (inB x1 p_s.size) (
  if decide ((Ni p_some (Qt p_s x1)) < 0) then
  some false
  else
  Hs p_s p_some j1 m1 (W (x1 + 1)))
  else
  j1
def Nb (p_s : ByteArray) (p_some : ByteArray) : Option Bool :=
  Fu (some true) (fun j1 =>
  Hs p_s p_some j1 (((p_s.size : Int) - 0).toNat + 2) 0)
def Ks (p_s : ByteArray) : Option Bool :=
  Fu (fun (c1 : Bool) =>
  Fu (fun (c2 : Bool) =>
  some c2) (fun j2 =>
  if c1 then Option.bind (Nb p_s Fj) (fun r2 =>
  j2 (c1 && r2)) else j2 (c1 && true))) (fun j1 =>
  if (Ha (p_s.size : Int) 1 40) then Chk (Wz 0 1 p_s.size) (
  Option.bind (Nb (AI p_s 0 1) Hf) (fun r1 =>
  j1 ((Ha (p_s.size : Int) 1 40) && r1))) else j1 ((Ha (p_s.size : Int) 1 40) && true))
def Hg (p_at : Int) : Bool :=
  (Ha p_at 0 345686399999)
def Jr (p_d : An) : Option Int :=
  Option.bind (Ks p_d.Site) (fun r1 =>
  if !r1 then
  some 5
  else
  if ((!(Ha p_d.No 1 1000000)) || (!(Hg p_d.At))) then
  some 1
  else
  if !(Ha p_d.Kind 1 4) then
  some 4
  else
  Fu (fun (x1 : ByteArray) (x2 : ByteArray) (x3 : ByteArray) (x4 : Int) =>
  Fu (fun (x5 : ByteArray) =>
  Fu (fun (x6 : Int) =>
  Fu (fun (x7 : Int) =>
  if !decide (p_d = (An.mk p_d.Site p_d.No p_d.At p_d.Kind x1 x5 x2 x6 x7 x3 x4)) then
  some 3
  else
  some 0) (fun j7 =>
  if decide (p_d.Kind = 3) then
  if !(Ha p_d.Fault 0 8) then
  some 1
  else
  j7 p_d.Fault
  else
  j7 0)) (fun j6 =>
  if ((decide (p_d.Kind = 1)) || (decide (p_d.Kind = 3))) then
  if !(Ha p_d.Time 0 360000) then
  some 1
  else
  j6 p_d.Time
  else
  j6 0)) (fun j5 =>
  if decide (p_d.Kind = 1) then
  j5 p_d.Club
  else
  j5 Cw)) (fun j1 =>
  if decide (p_d.Kind = 4) then
  Option.bind (Ks p_d.Of) (fun r2 =>
  if !r2 then
  some 5
  else
  if !(Ha p_d.Other 1 1000000) then
  some 1
  else
  j1 Cw Cw p_d.Of p_d.Other)
  else
  Option.bind (Ks p_d.Who) (fun r3 =>
  Fu (fun (c1 : Bool) =>
  Fu (fun (c2 : Bool) =>
  if c2 then
  some 5
  else
  j1 p_d.Who p_d.Race Cw 0) (fun j3 =>
  if c1 then j3 (c1 || true) else Fu (fun (c3 : Bool) =>
  j3 (c1 || c3)) (fun j4 =>
  if ((decide (p_d.Kind = 1)) && (!decide (p_d.Club = Cw))) then Option.bind (Ks p_d.Club) (fun r5 =>
  j4 (((decide (p_d.Kind = 1)) && (!decide (p_d.Club = Cw))) && (!r5))) else j4 (((decide (p_d.Kind = 1)) && (!decide (p_d.Club = Cw))) && true)))) (fun j2 =>
  if (!r3) then j2 ((!r3) || true) else Option.bind (Ks p_d.Race) (fun r4 =>
  j2 ((!r3) || (!r4)))))))
def Ls (p_a : An) (p_b : An) : Bool :=
  ((decide (p_a.Site = p_b.Site)) && (decide (p_a.No = p_b.No)))
def Ka (p_o : An) (p_a1 : An) : Bool :=
  (Ls p_o p_a1)
def Dk (p_f_0 : An) (j1 : Int) : List An → Nat → Int
  | [],_=>j1
  | y1 :: ys1,i1=>if (Ka y1 p_f_0) then
  (i1 : Int)
  else
  Dk p_f_0 j1 ys1 (i1 + 1)
def Ht (p_s : List An) (p_f_0 : An) : Int :=
  Fu ((-1)) (fun j1 =>
  Dk p_f_0 j1 p_s 0)
def Gh (p_s : List An) (p_f_0 : An) : Bool :=
  decide (0 ≤ (Ht p_s p_f_0))
def Fk (p_l : List An) (j1 : Option Int) : List An → Nat → Option Int
  | [],_=>j1
  | y1 :: ys1,i1=>Option.bind (Jr y1) (fun r1 =>
  if !decide (r1 = 0) then
  some r1
  else
  Fu (fun (x1 : Bool) =>
  if x1 then
  some 7
  else
  Fk p_l j1 ys1 (i1 + 1)) (fun j2 =>
  if decide (0 < (i1 : Int)) then
  Chk (inB (W ((i1 : Int) - 1)) p_l.length) (
  j2 (decide (0 ≤ (Ea (nth p_l (W ((i1 : Int) - 1))) y1))))
  else
  j2 false))
def Ga (p_l : List An) (j3 : Option Int) : List An → Nat → Option Int
  | [],_=>j3
  | y2 :: ys2,i2=>Chk (Wz 0 (i2 : Int) p_l.length) (
  if (Gh (cut p_l 0 (i2 : Int)) y2) then
  some 6
  else
  Ga p_l j3 ys2 (i2 + 1))
def Il (p_l : List An) : Option Int :=
  if decide (2000 < (p_l.length : Int)) then
  some 2
  else
  Fu (Fu (some 0) (fun j3 =>
  Ga p_l j3 p_l 0)) (fun j1 =>
  Fk p_l j1 p_l 0)
def Ov (s c : ByteArray) : Option ByteArray :=
  Chk (decide (s.size ≤ 9223372036854775807)) (Chk (decide (c.size < 4294967281)) (Chk (c.data.toList.all fun b=>decide (b.toNat < 128)) (some ⟨(Lib.trimS s.data.toList c.data.toList).toArray⟩)))
def Im (p_s : ByteArray) : Option Bool :=
  Fu (fun (c1 : Bool) =>
  Fu (fun (c2 : Bool) =>
  Fu (fun (c3 : Bool) =>
  some c3) (fun j3 =>
  if c2 then Option.bind (Ov p_s Fj) (fun r1 =>
  j3 (c2 && (decide (r1 = Cw)))) else j3 (c2 && true))) (fun j2 =>
  if c1 then Chk (inB 0 p_s.size) (
  j2 (c1 && (decide ((Qt p_s 0) ≤ 122)))) else j2 (c1 && true))) (fun j1 =>
  if ((decide (1 ≤ (p_s.size : Int))) && (decide ((p_s.size : Int) ≤ 40))) then Chk (inB 0 p_s.size) (
  j1 (((decide (1 ≤ (p_s.size : Int))) && (decide ((p_s.size : Int) ≤ 40))) && (decide (97 ≤ (Qt p_s 0))))) else j1 (((decide (1 ≤ (p_s.size : Int))) && (decide ((p_s.size : Int) ≤ 40))) && true))
def Dd (p_n : Int) (p_low : Int) (p_high : Int) : Bool :=
  ((decide (p_low ≤ p_n)) && (decide (p_n ≤ p_high)))
def Gf (p_n : Int) : Bool :=
  ((decide (0 ≤ p_n)) && (decide (p_n < 345686400000)))
def Kb (p_x : An) : Option Int :=
  Option.bind (Im p_x.Site) (fun r1 =>
  if !r1 then
  some 5
  else
  if ((!(Dd p_x.No 1 1000000)) || (!(Gf p_x.At))) then
  some 1
  else
  if !(Dd p_x.Kind 1 4) then
  some 4
  else
  Fu (fun (c1 : Bool) =>
  Fu (fun (x1 : Bool) =>
  if x1 then
  some 5
  else
  Fu (fun (x2 : Bool) =>
  if x2 then
  some 1
  else
  Fu (fun (c4 : Bool) =>
  if c4 then
  some 5
  else
  if ((decide (p_x.Kind = 4)) && (!(Dd p_x.Other 1 1000000))) then
  some 1
  else
  Fu (fun (x3 : ByteArray) (x4 : ByteArray) (x5 : ByteArray) (x6 : Int) (x7 : Int) (x8 : ByteArray) (x9 : Int) =>
  if !decide (p_x = (An.mk p_x.Site p_x.No p_x.At p_x.Kind x3 x4 x5 x6 x7 x8 x9)) then
  some 3
  else
  some 0) (fun j7 =>
  Fu (fun (x10 : ByteArray) (x11 : ByteArray) (x12 : ByteArray) (x13 : Int) (x14 : Int) (x15 : ByteArray) (x16 : Int) =>
  j7 x10 x11 x12 x13 x14 x15 x16) (fun j8 =>
  if decide (p_x.Kind = 1) then
  j8 p_x.Who p_x.Club p_x.Race p_x.Time 0 Cw 0
  else
  Fu (fun (x17 : ByteArray) (x18 : ByteArray) (x19 : Int) (x20 : Int) (x21 : ByteArray) (x22 : Int) =>
  j8 x17 Cw x18 x19 x20 x21 x22) (fun j9 =>
  if decide (p_x.Kind = 3) then
  j9 p_x.Who p_x.Race p_x.Time p_x.Fault Cw 0
  else
  Fu (fun (x23 : ByteArray) (x24 : ByteArray) (x25 : ByteArray) (x26 : Int) =>
  j9 x23 x24 0 0 x25 x26) (fun j10 =>
  if decide (p_x.Kind = 4) then
  j10 Cw Cw p_x.Of p_x.Other
  else
  j10 p_x.Who p_x.Race Cw 0))))) (fun j6 =>
  if (decide (p_x.Kind = 4)) then Option.bind (Im p_x.Of) (fun r5 =>
  j6 ((decide (p_x.Kind = 4)) && (!r5))) else j6 ((decide (p_x.Kind = 4)) && true))) (fun j5 =>
  if (((decide (p_x.Kind = 1)) || (decide (p_x.Kind = 3))) && (!(Dd p_x.Time 0 360000))) then
  j5 (((decide (p_x.Kind = 1)) || (decide (p_x.Kind = 3))) && (!(Dd p_x.Time 0 360000)))
  else
  j5 ((decide (p_x.Kind = 3)) && (!(Dd p_x.Fault 0 8))))) (fun j3 =>
  if c1 then
  j3 c1
  else
  Fu (fun (c3 : Bool) =>
  j3 c3) (fun j4 =>
  if ((decide (p_x.Kind = 1)) && (!decide (p_x.Club = Cw))) then Option.bind (Im p_x.Club) (fun r4 =>
  j4 (((decide (p_x.Kind = 1)) && (!decide (p_x.Club = Cw))) && (!r4))) else j4 (((decide (p_x.Kind = 1)) && (!decide (p_x.Club = Cw))) && true)))) (fun j1 =>
  if (!(decide (p_x.Kind = 4))) then Option.bind (Im p_x.Who) (fun r2 =>
  Fu (fun (c2 : Bool) =>
  j1 ((!(decide (p_x.Kind = 4))) && c2)) (fun j2 =>
  if (!r2) then j2 ((!r2) || true) else Option.bind (Im p_x.Race) (fun r3 =>
  j2 ((!r2) || (!r3))))) else j1 ((!(decide (p_x.Kind = 4))) && true)))
def Lh (p_x : Int) : Bool :=
  !decide (p_x = p_x)
def Eu (p_x : Int) (p_y : Int) : Int :=
  if (Lh p_x) then
  if (Lh p_y) then
  0
  else
  (-1)
  else
  if (Lh p_y) then
  1
  else
  if decide (p_x < p_y) then
  (-1)
  else
  if decide (p_y < p_x) then
  1
  else
  0
def Jc (j1 : Int) : List Int → Nat → Int
  | [],_=>j1
  | y1 :: ys1,i1=>if !decide (y1 = 0) then
  y1
  else
  Jc j1 ys1 (i1 + 1)
def Oj (p_vals : List Int) : Int :=
  Fu (0) (fun j1 =>
  Jc j1 p_vals 0)
def Ex (p_a : An) (p_b : An) : Int :=
  (Oj [(Eu p_a.At p_b.At),(Gi p_a.Site p_b.Site),(Eu p_a.No p_b.No)])
def Cx (p_x : An) : Cz :=
  (Cz.mk p_x.Site p_x.No)
def Fp (p_l : List An) (j1 : (List (Cz × Bool)) → Bool → Option Int) : List An → Nat → (List (Cz × Bool)) → Bool → Option Int
  | [],_,x1,x2=>j1 x1 x2
  | y1 :: ys1,i1,x1,x2=>Option.bind (Kb y1) (fun r1 =>
  if !decide (r1 = 0) then
  some r1
  else
  Fu (fun (x3 : Bool) =>
  if x3 then
  some 7
  else
  Fp p_l j1 ys1 (i1 + 1) (Ff x1 (Cx y1) true) (x2 || (Dw x1 (Cx y1) false))) (fun j2 =>
  if decide (0 < (i1 : Int)) then
  Chk (inB (W ((i1 : Int) - 1)) p_l.length) (
  j2 (decide (0 ≤ (Ex (nth p_l (W ((i1 : Int) - 1))) y1))))
  else
  j2 false))
def Gu (p_l : List An) : Option Int :=
  if decide (2000 < (p_l.length : Int)) then
  some 2
  else
  Fu (fun (x1 : List (Cz × Bool)) (x2 : Bool) =>
  if x2 then
  some 6
  else
  some 0) (fun j1 =>
  Fp p_l j1 p_l 0 ([] : List (Cz × Bool)) false)
open Classical in
def Fx (p_x : List An) : Option (List An):=if Sy Ex p_x ∧ p_x.length < 4611686018427387904 then some (Ir Ex p_x) else none
def Jx (j1 : (List (Cz × An)) → Option ((List An) × Int)) : List An → Nat → (List (Cz × An)) → Option ((List An) × Int)
  | [],_,x1=>j1 x1
  | y1 :: ys1,i1,x1=>Jx j1 ys1 (i1 + 1) (Ff x1 (Cx y1) y1)
def Hm (x1 : List (Cz × An)) (j2 : (List An) → Option ((List An) × Int)) : List An → Nat → (List An) → Option ((List An) × Int)
  | [],_,x2=>j2 x2
  | y2 :: ys2,i2,x2=>Fu (fun (x3 : List An) =>
  Hm x1 j2 ys2 (i2 + 1) x3) (fun j3 =>
  if (((Nv x1 (Cx y2)).isSome) && (!decide (y2 = (Dw x1 (Cx y2) (An.mk Cw 0 0 0 Cw Cw Cw 0 0 Cw 0))))) then
  some (([] : List An),13)
  else
  Fu (fun (x4 : List An) =>
  j3 x4) (fun j4 =>
  if !((Nv x1 (Cx y2)).isSome) then
  Chk (Px x2.length) (
  j4 (x2 ++ [y2]))
  else
  j4 x2))
def Mt (p_a : List An) (p_b : List An) : Option ((List An) × Int) :=
  Option.bind (Gu p_a) (fun r1 =>
  if !decide (r1 = 0) then
  some (([] : List An),r1)
  else
  Option.bind (Gu p_b) (fun r2 =>
  if !decide (r2 = 0) then
  some (([] : List An),r2)
  else
  Fu (fun (x1 : List (Cz × An)) =>
  Option.bind (Fh p_a) (fun r3 =>
  Fu (fun (x2 : List An) =>
  if decide (2000 < (x2.length : Int)) then
  some (([] : List An),2)
  else
  Option.bind (Fx x2) (fun r4 =>
  some (r4,0))) (fun j2 =>
  Hm x1 j2 p_b 0 r3))) (fun j1 =>
  Jx j1 p_a 0 ([] : List (Cz × An)))))
def Gq (j1 : (List Int) → Option (List Int)) : Nat → (List Int) → Int → Int → Option (List Int)
  | 0,_,_,_=>none
  | m1 + 1,x1,x2,x3=>if decide (x2 < x3) then
  Chk (inB x3 x1.length) (
  Chk (inB x2 x1.length) (
  Chk (inB x2 x1.length) (
  Chk (inB x3 (x1.set x2.toNat (nth x1 x3)).length) (
  Gq j1 m1 ((x1.set x2.toNat (nth x1 x3)).set x3.toNat (nth x1 x2)) (W (x2 + 1)) (W (x3 - 1))))))
  else
  j1 x1
def Kl (p_s : List Int) : Option (List Int) :=
  Fu (fun (x1 : List Int) =>
  some x1) (fun j1 =>
  Gq j1 (((W ((p_s.length : Int) - 1)) - 0).toNat + 2) p_s 0 (W ((p_s.length : Int) - 1)))
  /-- Which of the deeds count,from the last one on. -/
def Pi (l : List An) (at_ : Int) (i : Nat) (m : List (Cz × Bool)) : Bool:=decide (at_ < (nth l (i : Int)).At) || Dw m (Cx (nth l (i : Int))) false
def Hh (l : List An) (at_ : Int) : List Nat → List (Cz × Bool) → List Int → Option (List Int)
  | [],_,x=>Kl x
  | i :: is,m,x=>if Pi l at_ i m then Hh l at_ is m x else
    Chk (Px x.length) (Hh l at_ is (if decide ((nth l (i : Int)).Kind = 4) then Ff m (Cz.mk ((nth l (i : Int)).Of) ((nth l (i : Int)).Other)) true else m) (x ++ [(i : Int)]))
def Nc (l : List An) (at_ : Int) : Option (List Int):=Hh l at_ (Py l.length) [] []
def Nd (p_l : List An) (p_at : Int) : Option ((List Int) × Int) :=
  Option.bind (Gu p_l) (fun r1 =>
  if !decide (r1 = 0) then
  some (([] : List Int),r1)
  else
  if !(Gf p_at) then
  some (([] : List Int),1)
  else
  Option.bind (Nc p_l p_at) (fun r2 =>
  some (r2,0)))
def Hb (j1 : Int) : List Int → Nat → Int
  | [],_=>j1
  | y1 :: ys1,i1=>if !decide (y1 = 0) then
  y1
  else
  Hb j1 ys1 (i1 + 1)
def Eb (p_l : List Int) : Int :=
  Fu (0) (fun j1 =>
  Hb j1 p_l 0)
def Pn (p_is : Bool) (p_e : Int) : Int :=
  if p_is then
  p_e
  else
  0
def Dm (p_at : Int) : Int :=
  (Pn (!(Hg p_at)) 1)
def Ky (p_o : An) (p_a1 : An) : Bool :=
  (Ls p_o p_a1)
def Dq (p_f_0 : An) (j1 : Int) : List An → Nat → Int
  | [],_=>j1
  | y1 :: ys1,i1=>if (Ky y1 p_f_0) then
  (i1 : Int)
  else
  Dq p_f_0 j1 ys1 (i1 + 1)
def Dy (p_s : List An) (p_f_0 : An) : Int :=
  Fu ((-1)) (fun j1 =>
  Dq p_f_0 j1 p_s 0)
open Classical in
def Ft (p_x : List An) : Option (List An):=if Sy Ea p_x ∧ p_x.length < 4611686018427387904 then some (Ir Ea p_x) else none
def Fv (j1 : (List An) → Option ((List An) × Int)) : List An → Nat → (List An) → Option ((List An) × Int)
  | [],_,x1=>j1 x1
  | y1 :: ys1,i1,x1=>Fu (fun (x2 : List An) =>
  Fv j1 ys1 (i1 + 1) x2) (fun j2 =>
  Fu (fun (x3 : List An) =>
  j2 x3) (fun j3 =>
  if decide ((Dy x1 y1) < 0) then
  Chk (Px x1.length) (
  j3 (x1 ++ [y1]))
  else
  Chk (inB (Dy x1 y1) x1.length) (
  if !decide ((nth x1 (Dy x1 y1)) = y1) then
  some (([] : List An),13)
  else
  j3 x1)))
def Km (p_a : List An) (p_b : List An) : Option ((List An) × Int) :=
  Option.bind (Fh p_a) (fun r1 =>
  Fu (fun (x1 : List An) =>
  Option.bind (Ft x1) (fun r2 =>
  if decide (2000 < (r2.length : Int)) then
  some (([] : List An),2)
  else
  some (r2,0))) (fun j1 =>
  Fv j1 p_b 0 r1))
def Fo (p_a1 : List An) (p_i : Int) (self : Int → (List An) → Option Bool) (j1 : Option Bool) : Nat → Int → Option Bool
  | 0,_=>none
  | m1 + 1,x1=>if decide (x1 < (p_a1.length : Int)) then
  Fu (fun (x2 : Bool) =>
  if x2 then
  some false
  else
  Fo p_a1 p_i self j1 m1 (W (x1 + 1))) (fun j2 =>
  Chk (inB x1 p_a1.length) (
  if decide (((nth p_a1 x1).Kind) = 4) then
  Chk (inB x1 p_a1.length) (
  Chk (inB p_i p_a1.length) (
  if decide (((nth p_a1 x1).Of) = ((nth p_a1 p_i).Site)) then
  Chk (inB x1 p_a1.length) (
  Chk (inB p_i p_a1.length) (
  if decide (((nth p_a1 x1).Other) = ((nth p_a1 p_i).No)) then
  Option.bind (self x1 p_a1) (fun r1 =>
  j2 r1)
  else
  Chk (inB x1 p_a1.length) (
  Chk (inB x1 p_a1.length) (
  Chk (inB p_i p_a1.length) (
  Chk (inB x1 p_a1.length) (
  Chk (inB p_i p_a1.length) (
  j2 false)))))))
  else
  if false then
  Option.bind (self x1 p_a1) (fun r2 =>
  j2 r2)
  else
  Chk (inB x1 p_a1.length) (
  Chk (inB x1 p_a1.length) (
  Chk (inB p_i p_a1.length) (
  j2 false)))))
  else
  if false then
  Chk (inB x1 p_a1.length) (
  Chk (inB p_i p_a1.length) (
  if decide (((nth p_a1 x1).Other) = ((nth p_a1 p_i).No)) then
  Option.bind (self x1 p_a1) (fun r3 =>
  j2 r3)
  else
  Chk (inB x1 p_a1.length) (
  Chk (inB x1 p_a1.length) (
  Chk (inB p_i p_a1.length) (
  j2 false)))))
  else
  if false then
  Option.bind (self x1 p_a1) (fun r4 =>
  j2 r4)
  else
  Chk (inB x1 p_a1.length) (
  j2 false)))
  else
  j1
def Kt (self : Int → (List An) → Option Bool) (p_i : Int) (p_a1 : List An) : Option Bool :=
  Fu (some true) (fun j1 =>
  Fo p_a1 p_i self j1 (((p_a1.length : Int) - (W (p_i + 1))).toNat + 2) (W (p_i + 1)))
def Gj : Nat → Int → (List An) → Option Bool
  | 0,_,_=>none
  | m + 1,p_i,p_a1=>Kt (Gj m) p_i p_a1
def Gb (p_at : Int) (j1 : (List An) → Option (List Int)) : List An → Nat → (List An) → Option (List Int)
  | [],_,x1=>j1 x1
  | y1 :: ys1,i1,x1=>Fu (fun (x2 : List An) =>
  Gb p_at j1 ys1 (i1 + 1) x2) (fun j2 =>
  Fu (fun (x3 : List An) =>
  j2 x3) (fun j3 =>
  if decide (y1.At ≤ p_at) then
  Chk (Px x1.length) (
  j3 (x1 ++ [y1]))
  else
  j3 x1))
def Gc (x1 : List An) (j4 : (List Int) → Option (List Int)) : Nat → (List Int) → Int → Option (List Int)
  | 0,_,_=>none
  | m1 + 1,x4,x5=>if decide (x5 < (x1.length : Int)) then
  Fu (fun (x6 : List Int) =>
  Gc x1 j4 m1 x6 (W (x5 + 1))) (fun j5 =>
  Option.bind (Gj 16 x5 x1) (fun r1 =>
  Fu (fun (x7 : List Int) =>
  j5 x7) (fun j6 =>
  if r1 then
  Chk (Px x4.length) (
  j6 (x4 ++ [x5]))
  else
  j6 x4)))
  else
  j4 x4
def Ji (p_l : List An) (p_at : Int) : Option (List Int) :=
  Fu (fun (x1 : List An) =>
  Fu (fun (x4 : List Int) =>
  some x4) (fun j4 =>
  Gc x1 j4 (((x1.length : Int) - 0).toNat + 2) ([] : List Int) 0)) (fun j1 =>
  Gb p_at j1 p_l 0 ([] : List An))
def Hk (p_s2 : List An) (j1 : Option Bool) : List An → Nat → Option Bool
  | [],_=>j1
  | y1 :: ys1,i1=>Chk (inB (i1 : Int) p_s2.length) (
  if !decide (y1 = (nth p_s2 (i1 : Int))) then
  some false
  else
  Hk p_s2 j1 ys1 (i1 + 1))
def Iv (p_s1 : List An) (p_s2 : List An) : Option Bool :=
  if !decide ((p_s1.length : Int) = (p_s2.length : Int)) then
  some false
  else
  Fu (some true) (fun j1 =>
  Hk p_s2 j1 p_s1 0)
def Hr (p_s2 : List Int) (j1 : Option Bool) : List Int → Nat → Option Bool
  | [],_=>j1
  | y1 :: ys1,i1=>Chk (inB (i1 : Int) p_s2.length) (
  if !decide (y1 = (nth p_s2 (i1 : Int))) then
  some false
  else
  Hr p_s2 j1 ys1 (i1 + 1))
def Lj (p_s1 : List Int) (p_s2 : List Int) : Option Bool :=
  if !decide ((p_s1.length : Int) = (p_s2.length : Int)) then
  some false
  else
  Fu (some true) (fun j1 =>
  Hr p_s2 j1 p_s1 0)
def Jy (p_x : An) (j1 : Int → Option ((List An) × Int)) : List An → Nat → Int → Option ((List An) × Int)
  | [],_,x1=>j1 x1
  | y1 :: ys1,i1,x1=>Fu (fun (x2 : Int) =>
  Jy p_x j1 ys1 (i1 + 1) x2) (fun j2 =>
  Fu (fun (x3 : Int) =>
  j2 x3) (fun j3 =>
  if decide (y1.Site = p_x.Site) then
  j3 (Ud x1 y1.No)
  else
  j3 x1))
def Nn (p_l : List An) (p_x : An) : Option ((List An) × Int) :=
  Option.bind (Gu p_l) (fun r1 =>
  if !decide (r1 = 0) then
  some (([] : List An),r1)
  else
  if !decide (p_x.No = 0) then
  some (([] : List An),3)
  else
  Fu (fun (x1 : Int) =>
  Option.bind (Kb (An.mk p_x.Site (W (x1 + 1)) p_x.At p_x.Kind p_x.Who p_x.Club p_x.Race p_x.Time p_x.Fault p_x.Of p_x.Other)) (fun r2 =>
  if !decide (r2 = 0) then
  some (([] : List An),r2)
  else
  Fu (fun (x4 : Bool) =>
  if x4 then
  some (([] : List An),7)
  else
  if decide (2000 ≤ (p_l.length : Int)) then
  some (([] : List An),2)
  else
  Fu (fun (x5 : List An) =>
  some (x5,0)) (fun j5 =>
  Option.bind (Fh p_l) (fun r3 =>
  Chk (Px r3.length) (
  j5 (r3 ++ [(An.mk p_x.Site (W (x1 + 1)) p_x.At p_x.Kind p_x.Who p_x.Club p_x.Race p_x.Time p_x.Fault p_x.Of p_x.Other)]))))) (fun j4 =>
  if decide (0 < (p_l.length : Int)) then
  Chk (inB (W ((p_l.length : Int) - 1)) p_l.length) (
  j4 (decide (0 ≤ (Ex (nth p_l (W ((p_l.length : Int) - 1))) (An.mk p_x.Site (W (x1 + 1)) p_x.At p_x.Kind p_x.Who p_x.Club p_x.Race p_x.Time p_x.Fault p_x.Of p_x.Other)))))
  else
  j4 false))) (fun j1 =>
  Jy p_x j1 p_l 0 p_x.No))
def Fy (p_x : An) (j1 : Int → Option ((List An) × Int)) : List An → Nat → Int → Option ((List An) × Int)
  | [],_,x1=>j1 x1
  | y1 :: ys1,i1,x1=>Fu (fun (x2 : Int) =>
  Fy p_x j1 ys1 (i1 + 1) x2) (fun j2 =>
  Fu (fun (x3 : Int) =>
  j2 x3) (fun j3 =>
  if decide (y1.Site = p_x.Site) then
  j3 (Ud x1 y1.No)
  else
  j3 x1))
def Kn (p_l : List An) (p_x : An) : Option ((List An) × Int) :=
  if !decide (p_x.No = 0) then
  some (([] : List An),3)
  else
  Fu (fun (x1 : Int) =>
  Option.bind (Jr (An.mk p_x.Site (W (x1 + 1)) p_x.At p_x.Kind p_x.Who p_x.Club p_x.Race p_x.Time p_x.Fault p_x.Of p_x.Other)) (fun r1 =>
  if !decide (r1 = 0) then
  some (([] : List An),r1)
  else
  Fu (fun (x4 : Bool) =>
  if x4 then
  some (([] : List An),7)
  else
  if decide ((p_l.length : Int) = 2000) then
  some (([] : List An),2)
  else
  Fu (fun (x5 : List An) =>
  some (x5,0)) (fun j5 =>
  Option.bind (Fh p_l) (fun r2 =>
  Chk (Px r2.length) (
  j5 (r2 ++ [(An.mk p_x.Site (W (x1 + 1)) p_x.At p_x.Kind p_x.Who p_x.Club p_x.Race p_x.Time p_x.Fault p_x.Of p_x.Other)]))))) (fun j4 =>
  if decide (0 < (p_l.length : Int)) then
  Chk (inB (W ((p_l.length : Int) - 1)) p_l.length) (
  j4 (decide (0 ≤ (Ea (nth p_l (W ((p_l.length : Int) - 1))) (An.mk p_x.Site (W (x1 + 1)) p_x.At p_x.Kind p_x.Who p_x.Club p_x.Race p_x.Time p_x.Fault p_x.Of p_x.Other)))))
  else
  j4 false))) (fun j1 =>
  Fy p_x j1 p_l 0 p_x.No)
def Pj (p_r : Ed) : Option Int :=
  Option.bind (Im p_r.Key) (fun r1 =>
  if !r1 then
  some 5
  else
  if ((!(Dd p_r.Stroke 1 5)) || (!(Dd p_r.Sex 0 2))) then
  some 4
  else
  if (((((((!decide (p_r.Course = 25)) && (!decide (p_r.Course = 50))) || (!(Dd p_r.Legs 1 4))) || (!(Dd p_r.Metres 25 1500))) || (decide (p_r.Young < 0))) || (decide (p_r.Old < p_r.Young))) || (decide (120 < p_r.Old))) then
  some 1
  else
  Chk (!decide (p_r.Course = 0)) (
  if !decide ((Int.tmod p_r.Metres p_r.Course) = 0) then
  some 3
  else
  Fu (fun (c1 : Bool) =>
  Fu (fun (x1 : Bool) =>
  if x1 then
  some 16
  else
  some 0) (fun j2 =>
  if c1 then
  j2 c1
  else
  j2 (((decide (p_r.Stroke = 5)) && (decide (1 < p_r.Legs))) && (!decide (p_r.Legs = 4))))) (fun j1 =>
  if ((decide (p_r.Stroke = 5)) && (decide (p_r.Legs = 1))) then Chk (!decide ((W (4 * p_r.Course)) = 0)) (
  j1 (((decide (p_r.Stroke = 5)) && (decide (p_r.Legs = 1))) && (!decide ((Int.tmod p_r.Metres (W (4 * p_r.Course))) = 0)))) else j1 (((decide (p_r.Stroke = 5)) && (decide (p_r.Legs = 1))) && true))))
def Ow (p_x : Ed) (p_a1 : Ed) : Bool :=
  decide (p_x.Key = p_a1.Key)
def Ej (p_f_0 : Ed) (j1 : Int) : List Ed → Nat → Int
  | [],_=>j1
  | y1 :: ys1,i1=>if (Ow y1 p_f_0) then
  (i1 : Int)
  else
  Ej p_f_0 j1 ys1 (i1 + 1)
def Iw (p_s : List Ed) (p_f_0 : Ed) : Int :=
  Fu ((-1)) (fun j1 =>
  Ej p_f_0 j1 p_s 0)
def Ig (p_s : List Ed) (p_f_0 : Ed) : Bool :=
  decide (0 ≤ (Iw p_s p_f_0))
def Ic (p_t : Pz) (j1 : Option Int) : List Int → Nat → Option Int
  | [],_=>j1
  | y1 :: ys1,i1=>if !(Dd y1 0 10000) then
  some 1
  else
  Fu (fun (c1 : Bool) =>
  if c1 then
  some 7
  else
  Ic p_t j1 ys1 (i1 + 1)) (fun j2 =>
  if (decide (0 < (i1 : Int))) then Chk (inB (W ((i1 : Int) - 1)) p_t.Points.length) (
  j2 ((decide (0 < (i1 : Int))) && (decide ((nth p_t.Points (W ((i1 : Int) - 1))) < y1)))) else j2 ((decide (0 < (i1 : Int))) && true))
def Ox (p_t : Pz) : Option Int :=
  if decide (40 < (p_t.Points.length : Int)) then
  some 2
  else
  Fu (if ((!(Dd p_t.Relay 1 10)) || (!(Dd p_t.Most 0 10))) then
  some 1
  else
  some 0) (fun j1 =>
  Ic p_t j1 p_t.Points 0)
def Qa (p_f : Lq) : Int :=
  if (((!(Dd p_f.Size 1 10)) || (!(Dd p_f.Many 1 5))) || (!(Dd p_f.Reserves 0 10))) then
  1
  else
  0
def Jl (p_p : Lt) (j1 : Option Int) : List Ed → Nat → Option Int
  | [],_=>j1
  | y1 :: ys1,i1=>Option.bind (Pj y1) (fun r1 =>
  if !decide (r1 = 0) then
  some r1
  else
  Chk (Wz 0 (i1 : Int) p_p.Races.length) (
  if (Ig (cut p_p.Races 0 (i1 : Int)) y1) then
  some 6
  else
  Jl p_p j1 ys1 (i1 + 1)))
def Oy (p_p : Lt) : Option Int :=
  if decide (100 < (p_p.Races.length : Int)) then
  some 2
  else
  Fu (Option.bind (Ox p_p.Table) (fun r2 =>
  if !decide (r2 = 0) then
  some r2
  else
  some (Qa p_p.Final))) (fun j1 =>
  Jl p_p j1 p_p.Races 0)
def Ii (p_l : List An) (j1 : (List An) → Option (Option Ib)) : List Int → Nat → (List An) → Option (Option Ib)
  | [],_,x1=>j1 x1
  | y1 :: ys1,i1,x1=>Chk (inB y1 p_l.length) (
  Chk (Px x1.length) (
  Ii p_l j1 ys1 (i1 + 1) (x1 ++ [(nth p_l y1)])))
def Oz (p_p : Lt) (p_l : List An) (p_at : Int) : Option (Option Ib) :=
  Option.bind (Nc p_l p_at) (fun r1 =>
  Fu (fun (x1 : List An) =>
  some (some (Ib.mk p_p x1))) (fun j1 =>
  Ii p_l j1 r1 0 ([] : List An)))
def Ku (j1 : Option ((Option Ib) × Int)) : List Int → Nat → Option ((Option Ib) × Int)
  | [],_=>j1
  | y1 :: ys1,i1=>if !(Gf y1) then
  some (none,1)
  else
  Ku j1 ys1 (i1 + 1)
def Tr (p_p : Lt) (p_l : List An) (p_at : List Int) : Option ((Option Ib) × Int) :=
  Option.bind (Oy p_p) (fun r1 =>
  if !decide (r1 = 0) then
  some (none,r1)
  else
  Option.bind (Gu p_l) (fun r2 =>
  if !decide (r2 = 0) then
  some (none,r2)
  else
  Fu (Chk (inB (W ((p_at.length : Int) - 1)) p_at.length) (
  Option.bind (Oz p_p p_l (nth p_at (W ((p_at.length : Int) - 1)))) (fun r3 =>
  some (r3,0)))) (fun j1 =>
  Ku j1 p_at 0)))
def Rc (p_r : Ed) (p_a1 : ByteArray) : Bool :=
  decide (p_r.Key = p_a1)
def Ew (p_f_0 : ByteArray) (j1 : Int) : List Ed → Nat → Int
  | [],_=>j1
  | y1 :: ys1,i1=>if (Rc y1 p_f_0) then
  (i1 : Int)
  else
  Ew p_f_0 j1 ys1 (i1 + 1)
def Eh (p_s : List Ed) (p_f_0 : ByteArray) : Int :=
  Fu ((-1)) (fun j1 =>
  Ew p_f_0 j1 p_s 0)
def Ug (p_x : Int) : Option Int :=
  Fu (fun (x1 : Int) (x2 : Int) =>
  Fu (fun (x3 : Int) (x4 : Int) =>
  Chk (inB (IntKind.wrap .u8 x3) Lb.size) (
  some (W (x4 + (W (Qt Lb (IntKind.wrap .u8 x3))))))) (fun j2 =>
  if decide (256 ≤ x1) then
  j2 (Pw .u32 x1 8) (W (x2 + 8))
  else
  j2 x1 x2)) (fun j1 =>
  if decide (65536 ≤ p_x) then
  j1 (Pw .u32 p_x 16) 16
  else
  j1 p_x 0)
def Uh (p_x : Int) : Option Int :=
  Fu (fun (x1 : Int) (x2 : Int) =>
  Fu (fun (x3 : Int) (x4 : Int) =>
  Fu (fun (x5 : Int) (x6 : Int) =>
  Chk (inB (IntKind.wrap .u8 x5) Lb.size) (
  some (W (x6 + (W (Qt Lb (IntKind.wrap .u8 x5))))))) (fun j3 =>
  if decide (256 ≤ x3) then
  j3 (Pw .u64 x3 8) (W (x4 + 8))
  else
  j3 x3 x4)) (fun j2 =>
  if decide (65536 ≤ x1) then
  j2 (Pw .u64 x1 16) (W (x2 + 16))
  else
  j2 x1 x2)) (fun j1 =>
  if decide (4294967296 ≤ p_x) then
  j1 (Pw .u64 p_x 32) 32
  else
  j1 p_x 0)
def Uu (p_x : Int) : Option Int :=
  if false then
  Option.bind (Ug (IntKind.wrap .u32 p_x)) (fun r1 =>
  some r1)
  else
  Option.bind (Uh p_x) (fun r2 =>
  some r2)
def Jt (p_a : An) (p_b : An) : Int :=
  (Gi p_a.Who p_b.Who)
def Di (p_a : Int) (j2 : (List An) → Option (List An)) : Nat → (List An) → Int → Option (List An)
  | 0,_,_=>none
  | m2 + 1,x3,x4=>Fu (fun (x5 : Bool) =>
  if x5 then
  Chk (inB (W (x4 - 1)) x3.length) (
  Chk (inB x4 x3.length) (
  Chk (inB x4 x3.length) (
  Chk (inB (W (x4 - 1)) (x3.set x4.toNat (nth x3 (W (x4 - 1)))).length) (
  Di p_a j2 m2 ((x3.set x4.toNat (nth x3 (W (x4 - 1)))).set ((W (x4 - 1)).toNat) (nth x3 x4)) (W (x4 - 1))))))
  else
  j2 x3) (fun j3 =>
  if decide (p_a < x4) then
  Chk (inB x4 x3.length) (
  Chk (inB (W (x4 - 1)) x3.length) (
  j3 (decide ((Jt (nth x3 x4) (nth x3 (W (x4 - 1)))) < 0))))
  else
  j3 false)
def Ds (p_b : Int) (p_a : Int) (j1 : (List An) → Option (List An)) : Nat → (List An) → Int → Option (List An)
  | 0,_,_=>none
  | m1 + 1,x1,x2=>if decide (x2 < p_b) then
  Fu (fun (x3 : List An) =>
  Ds p_b p_a j1 m1 x3 (W (x2 + 1))) (fun j2 =>
  Di p_a j2 ((x2 - p_a).toNat + 2) x1 x2)
  else
  j1 x1
def Fi (p_data : List An) (p_a : Int) (p_b : Int) : Option (List An) :=
  Fu (fun (x1 : List An) =>
  some x1) (fun j1 =>
  Ds p_b p_a j1 ((p_b - (W (p_a + 1))).toNat + 2) p_data (W (p_a + 1)))
def Ee (p_data : List An) : Nat → Int → Int → Int → Bool → Option (List An)
  | 0,_,_,_,_=>none
  | _ + 1,x1,x2,x3,x4=>if decide ((W (x2 - x1)) ≤ 12) then
  Option.bind (Fi p_data x1 x2) (fun r1 =>
  some r1)
  else
  if decide (x3 = 0) then
  none
  else
  if !x4 then
  none
  else
  none
def Gx (p_data : List An) (p_a : Int) (p_b : Int) (p_limit : Int) : Option (List An) :=
  Ee p_data 4611686018427387904 p_a p_b p_limit true
def Gp (p_x : List An) : Option (List An) :=
  Option.bind (Uu (IntKind.wrap .u64 (p_x.length : Int))) (fun r1 =>
  Option.bind (Gx p_x 0 (p_x.length : Int) r1) (fun r2 =>
  some r2))
def Hu (p_race : ByteArray) (j1 : (List (ByteArray × An)) → Option (List An)) : List An → Nat → (List (ByteArray × An)) → Option (List An)
  | [],_,x1=>j1 x1
  | y1 :: ys1,i1,x1=>Fu (fun (x2 : List (ByteArray × An)) =>
  Hu p_race j1 ys1 (i1 + 1) x2) (fun j2 =>
  if !decide (y1.Race = p_race) then
  j2 x1
  else
  Fu (fun (x3 : List (ByteArray × An)) =>
  j2 x3) (fun j3 =>
  Fu (fun (x4 : List (ByteArray × An)) =>
  j3 x4) (fun j4 =>
  if decide (y1.Kind = 1) then
  j4 (Ff x1 y1.Who y1)
  else
  Fu (fun (x5 : List (ByteArray × An)) =>
  j4 x5) (fun j5 =>
  if decide (y1.Kind = 2) then
  j5 (Su x1 y1.Who)
  else
  j5 x1))))
def Ik (j6 : (List An) → Option (List An)) : List (ByteArray × An) → (List An) → Option (List An)
  | [],x6=>j6 x6
  | y2 :: ys2,x6=>Option.bind (α:=(List An)) (
  Chk (Px x6.length) (
  some (x6 ++ [y2.2]))) (fun s=>Ik j6 ys2 s)
def Nf (p_s_p : Lt) (p_s_deeds : List An) (p_race : ByteArray) : Option (List An) :=
  Fu (fun (x1 : List (ByteArray × An)) =>
  Fu (fun (x6 : List An) =>
  Option.bind (Gp x6) (fun r1 =>
  some r1)) (fun j6 =>
  EN x1 (fun p=>Ik j6 p ([] : List An)))) (fun j1 =>
  Hu p_race j1 p_s_deeds 0 ([] : List (ByteArray × An)))
def Sh (p_s_p : Lt) (p_s_deeds : List An) (p_key : ByteArray) : Option (Ed × Int) :=
  if decide ((Eh p_s_p.Races p_key) < 0) then
  some ((Ed.mk Cw 0 0 0 0 0 0 0),8)
  else
  Option.bind (Nf p_s_p p_s_deeds p_key) (fun r1 =>
  if decide (300 < (r1.length : Int)) then
  some ((Ed.mk Cw 0 0 0 0 0 0 0),2)
  else
  Chk (inB (Eh p_s_p.Races p_key) p_s_p.Races.length) (
  some ((nth p_s_p.Races (Eh p_s_p.Races p_key)),0)))
def Uv (p_p : Lt) (p_l : List An) (p_race : ByteArray) (p_at : Int) : Option ((Option Ib) × Ed × Int) :=
  Option.bind (Tr p_p p_l ([p_at] : List Int)) (fun r1 =>
  if !decide (r1.2 = 0) then
  some (none,(Ed.mk Cw 0 0 0 0 0 0 0),r1.2)
  else
  Option.bind (r1.1) (fun r2 =>
  Option.bind (Sh r2.p_ r2.deeds_ p_race) (fun r3 =>
  some (some r2,r3.1,r3.2))))
def Jo (j1 : (List Kx) → Option (List Kx)) : List An → Nat → (List Kx) → Option (List Kx)
  | [],_,x1=>j1 x1
  | y1 :: ys1,i1,x1=>Chk (Px x1.length) (
  Jo j1 ys1 (i1 + 1) (x1 ++ [(Kx.mk y1.Who y1.Time)]))
def Qx (p_s_p : Lt) (p_s_deeds : List An) (p_race : ByteArray) : Option (List Kx) :=
  Option.bind (Nf p_s_p p_s_deeds p_race) (fun r1 =>
  Fu (fun (x1 : List Kx) =>
  some x1) (fun j1 =>
  Jo j1 r1 0 ([] : List Kx)))
def Qd (p_p : Lt) (p_l : List An) (p_race : ByteArray) (p_at : Int) : Option ((List Kx) × Int) :=
  Option.bind (Uv p_p p_l p_race p_at) (fun r1 =>
  if !decide (r1.2.2 = 0) then
  some (([] : List Kx),r1.2.2)
  else
  Option.bind (r1.1) (fun r2 =>
  Option.bind (Qx r2.p_ r2.deeds_ p_race) (fun r3 =>
  some (r3,0))))
def Lu : Option Bool :=
  Option.bind (Qd (Lt.mk ([(Ed.mk k_r 50 1 50 1 0 0 0)] : List Ed) (Pz.mk ([] : List Int) 1 0) (Lq.mk 1 1 0)) [(An.mk k_s 1 0 1 k_a Cw k_r 5 0 Cw 0)] k_r 0) (fun r1 =>
  Fu (fun (c1 : Bool) =>
  some c1) (fun j1 =>
  if ((decide (r1.2 = 0)) && (decide ((r1.1.length : Int) = 1))) then Chk (inB 0 r1.1.length) (
  j1 (((decide (r1.2 = 0)) && (decide ((r1.1.length : Int) = 1))) && (decide (((nth r1.1 0).Time) = 5)))) else j1 (((decide (r1.2 = 0)) && (decide ((r1.1.length : Int) = 1))) && true)))
def Ek (p_l : List Int) (r2 : (List An) × Int) (r10 : Int) (j8 : Int → Option Bool) : List An → Nat → Int → Option Bool
  | [],_,x9=>j8 x9
  | y1 :: ys1,i1,x9=>Option.bind (Kg p_l x9 12) (fun r20 =>
  Fu (fun (x10 : Int) =>
  Option.bind (Kg p_l r20.2 2) (fun r21 =>
  Fu (fun (x11 : Int) =>
  Option.bind (Nn r2.1 (An.mk y1.Site x10 x11 y1.Kind y1.Who y1.Club y1.Race y1.Time y1.Fault y1.Of y1.Other)) (fun r22 =>
  Fu (fun (x12 : Int) (x13 : List An) =>
  Fu (fun (c3 : Bool) =>
  if c3 then
  some false
  else
  Ek p_l r2 r10 j8 ys1 (i1 + 1) r21.2) (fun j12 =>
  if (!decide (r22.2 = x12)) then j12 ((!decide (r22.2 = x12)) || true) else Option.bind (Iv r22.1 x13) (fun r24 =>
  j12 ((!decide (r22.2 = x12)) || (!r24))))) (fun j11 =>
  if decide (r10 = 0) then
  Option.bind (Kn r2.1 (An.mk y1.Site x10 x11 y1.Kind y1.Who y1.Club y1.Race y1.Time y1.Fault y1.Of y1.Other)) (fun r23 =>
  j11 r23.2 r23.1)
  else
  j11 r10 ([] : List An)))) (fun j10 =>
  if r21.1 then
  j10 (W (y1.At + 80))
  else
  j10 y1.At))) (fun j9 =>
  if r20.1 then
  j9 1
  else
  j9 0))
def Mc (p_l : List Int) : Option Bool :=
  Option.bind (Lc p_l 0 0 14) (fun r1 =>
  Option.bind (Le p_l r1.2 r1.1) (fun r2 =>
  Option.bind (Lc p_l r2.2 0 6) (fun r3 =>
  Option.bind (Le p_l r3.2 r3.1) (fun r4 =>
  Option.bind (My p_l r4.2) (fun r5 =>
  Fu (fun (x1 : Int) (x2 : Bool) =>
  Fu (fun (x3 : Int) (x4 : List An) =>
  Option.bind (Il r2.1) (fun r10 =>
  Option.bind (Mt r2.1 x4) (fun r11 =>
  Option.bind (Nd r2.1 r5.1) (fun r12 =>
  Option.bind (Il x4) (fun r13 =>
  Fu (fun (x6 : Int) (x7 : List An) =>
  Fu (fun (x8 : List Int) =>
  Option.bind (Gu r2.1) (fun r16 =>
  Fu (fun (c1 : Bool) =>
  Fu (fun (c2 : Bool) =>
  if c2 then
  some false
  else
  Option.bind (Le p_l x3 2) (fun r19 =>
  Fu (fun (x9 : Int) =>
  Option.bind (Lu) (fun r25 =>
  some r25)) (fun j8 =>
  Ek p_l r2 r10 j8 r19.1 0 r19.2))) (fun j7 =>
  if (c1 || (!decide (r12.2 = (Eb [r10,(Dm r5.1)])))) then j7 ((c1 || (!decide (r12.2 = (Eb [r10,(Dm r5.1)])))) || true) else Option.bind (Lj r12.1 x8) (fun r18 =>
  j7 ((c1 || (!decide (r12.2 = (Eb [r10,(Dm r5.1)])))) || (!r18))))) (fun j6 =>
  if ((!decide (r16 = r10)) || (!decide (r11.2 = x6))) then j6 (((!decide (r16 = r10)) || (!decide (r11.2 = x6))) || true) else Option.bind (Iv r11.1 x7) (fun r17 =>
  j6 (((!decide (r16 = r10)) || (!decide (r11.2 = x6))) || (!r17)))))) (fun j5 =>
  if decide ((Eb [r10,(Dm r5.1)]) = 0) then
  Option.bind (Ji r2.1 r5.1) (fun r15 =>
  j5 r15)
  else
  j5 ([] : List Int))) (fun j4 =>
  if decide ((Eb [r10,r13]) = 0) then
  Option.bind (Km r2.1 x4) (fun r14 =>
  j4 r14.2 r14.1)
  else
  j4 (Eb [r10,r13]) ([] : List An))))))) (fun j2 =>
  if x2 then
  Option.bind (Ke p_l x1 (r2.1.length : Int)) (fun r7 =>
  Chk (Wz r7.1 (r2.1.length : Int) r2.1.length) (
  Option.bind (Fh (cut r2.1 r7.1 r2.1.length)) (fun r8 =>
  Option.bind (Kg p_l r7.2 4) (fun r9 =>
  Fu (fun (x5 : List An) =>
  j2 r9.2 x5) (fun j3 =>
  if r9.1 then
  Chk (inB 0 r8.length) (
  Chk (inB 0 r8.length) (
  j3 (r8.set ((0 : Int).toNat) (An.mk ((nth r8 0).Site) ((nth r8 0).No) (W (((nth r8 0).At) + 1)) ((nth r8 0).Kind) ((nth r8 0).Who) ((nth r8 0).Club) ((nth r8 0).Race) ((nth r8 0).Time) ((nth r8 0).Fault) ((nth r8 0).Of) ((nth r8 0).Other)))))
  else
  j3 r8)))))
  else
  j2 x1 r4.1)) (fun j1 =>
  if (decide (0 < (r2.1.length : Int))) then
  Option.bind (Kg p_l r5.2 2) (fun r6 =>
  j1 r6.2 r6.1)
  else
  j1 r5.2 false))))))
theorem twin_eqs : True:=by
  have h:=@Dh.eq_def; clear h; have h:=@Dh.eq_1; clear h; have h:=@Dh.eq_2; clear h
  have h:=@Dp.eq_def; clear h; have h:=@Dp.eq_1; clear h; have h:=@Dp.eq_2; clear h
  have h:=@Du.eq_def; clear h; have h:=@Du.eq_1; clear h; have h:=@Du.eq_2; clear h
  have h:=@Ei.eq_def; clear h; have h:=@Ei.eq_1; clear h; have h:=@Ei.eq_2; clear h
  have h:=@Dv.eq_def; clear h; have h:=@Dv.eq_1; clear h; have h:=@Dv.eq_2; clear h
  have h:=@Jb.eq_def; clear h; have h:=@Jb.eq_1; clear h; have h:=@Jb.eq_2; clear h
  have h:=@Hs.eq_def; clear h; have h:=@Hs.eq_1; clear h; have h:=@Hs.eq_2; clear h
  have h:=@Dk.eq_def; clear h; have h:=@Dk.eq_1; clear h; have h:=@Dk.eq_2; clear h
  have h:=@Fk.eq_def; clear h; have h:=@Fk.eq_1; clear h; have h:=@Fk.eq_2; clear h
  have h:=@Ga.eq_def; clear h; have h:=@Ga.eq_1; clear h; have h:=@Ga.eq_2; clear h
  have h:=@Jc.eq_def; clear h; have h:=@Jc.eq_1; clear h; have h:=@Jc.eq_2; clear h
  have h:=@Fp.eq_def; clear h; have h:=@Fp.eq_1; clear h; have h:=@Fp.eq_2; clear h
  have h:=@Jx.eq_def; clear h; have h:=@Jx.eq_1; clear h; have h:=@Jx.eq_2; clear h
  have h:=@Hm.eq_def; clear h; have h:=@Hm.eq_1; clear h; have h:=@Hm.eq_2; clear h
  have h:=@Gq.eq_def; clear h; have h:=@Gq.eq_1; clear h; have h:=@Gq.eq_2; clear h
  have h:=@Hh.eq_def; clear h; have h:=@Hh.eq_1; clear h; have h:=@Hh.eq_2; clear h
  have h:=@Hb.eq_def; clear h; have h:=@Hb.eq_1; clear h; have h:=@Hb.eq_2; clear h
  have h:=@Dq.eq_def; clear h; have h:=@Dq.eq_1; clear h; have h:=@Dq.eq_2; clear h
  have h:=@Fv.eq_def; clear h; have h:=@Fv.eq_1; clear h; have h:=@Fv.eq_2; clear h
  have h:=@Fo.eq_def; clear h; have h:=@Fo.eq_1; clear h; have h:=@Fo.eq_2; clear h
  have h:=@Gb.eq_def; clear h; have h:=@Gb.eq_1; clear h; have h:=@Gb.eq_2; clear h
  have h:=@Gc.eq_def; clear h; have h:=@Gc.eq_1; clear h; have h:=@Gc.eq_2; clear h
  have h:=@Hk.eq_def; clear h; have h:=@Hk.eq_1; clear h; have h:=@Hk.eq_2; clear h
  have h:=@Hr.eq_def; clear h; have h:=@Hr.eq_1; clear h; have h:=@Hr.eq_2; clear h
  have h:=@Jy.eq_def; clear h; have h:=@Jy.eq_1; clear h; have h:=@Jy.eq_2; clear h
  have h:=@Fy.eq_def; clear h; have h:=@Fy.eq_1; clear h; have h:=@Fy.eq_2; clear h
  have h:=@Ej.eq_def; clear h; have h:=@Ej.eq_1; clear h; have h:=@Ej.eq_2; clear h
  have h:=@Ic.eq_def; clear h; have h:=@Ic.eq_1; clear h; have h:=@Ic.eq_2; clear h
  have h:=@Jl.eq_def; clear h; have h:=@Jl.eq_1; clear h; have h:=@Jl.eq_2; clear h
  have h:=@Ii.eq_def; clear h; have h:=@Ii.eq_1; clear h; have h:=@Ii.eq_2; clear h
  have h:=@Ku.eq_def; clear h; have h:=@Ku.eq_1; clear h; have h:=@Ku.eq_2; clear h
  have h:=@Ew.eq_def; clear h; have h:=@Ew.eq_1; clear h; have h:=@Ew.eq_2; clear h
  have h:=@Di.eq_def; clear h; have h:=@Di.eq_1; clear h; have h:=@Di.eq_2; clear h
  have h:=@Ds.eq_def; clear h; have h:=@Ds.eq_1; clear h; have h:=@Ds.eq_2; clear h
  have h:=@Ee.eq_def; clear h; have h:=@Ee.eq_1; clear h; have h:=@Ee.eq_2; clear h
  have h:=@Hu.eq_def; clear h; have h:=@Hu.eq_1; clear h; have h:=@Hu.eq_2; clear h
  have h:=@Ik.eq_def; clear h; have h:=@Ik.eq_1; clear h; have h:=@Ik.eq_2; clear h
  have h:=@Jo.eq_def; clear h; have h:=@Jo.eq_1; clear h; have h:=@Jo.eq_2; clear h
  have h:=@Ek.eq_def; clear h; have h:=@Ek.eq_1; clear h; have h:=@Ek.eq_2; clear h
  have h:=@Gj.eq_def; clear h; have h:=@Gj.eq_1; clear h; have h:=@Gj.eq_2; clear h
  trivial
end
end Go.Proofs.YtcmlfgcnichcdaaGreatDoor
