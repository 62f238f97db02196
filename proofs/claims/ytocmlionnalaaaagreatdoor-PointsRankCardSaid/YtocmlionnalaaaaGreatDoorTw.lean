/- The Go functions as plain Lean functions,by program. -/
import Derived.Test.YtocmlionnalaaaaGreatDoorBase
import Derived.Lib.ItoaNum
import Derived.Lib.Join
namespace Go.Proofs.YtocmlionnalaaaaGreatDoor
open Go
structure CU where
  L : List Int
  at_ : Int
  deriving DecidableEq,Inhabited
structure Ha where
  Num : Int
  Den : Int
  deriving DecidableEq,Inhabited
structure Dj where
  Key : ByteArray
  Points : Ha
  deriving DecidableEq,Inhabited
structure An where
  Race : ByteArray
  Who : ByteArray
  Club : ByteArray
  Rank : Int
  Relay : Bool
  deriving DecidableEq,Inhabited
structure Cv where
  race_ : ByteArray
  who_ : ByteArray
  deriving DecidableEq,Inhabited
structure Dy where
  Name : ByteArray
  Value : ByteArray
  deriving DecidableEq,Inhabited
structure Cj where
  a0_ : Int
  a1_ : Int
  a2_ : Int
  deriving DecidableEq,Inhabited
structure Ci where
  club_ : ByteArray
  many_ : Cj
  deriving DecidableEq,Inhabited
structure Di where
  is_ : Bool
  e_ : Int
  deriving DecidableEq,Inhabited
structure Le where
  Race : ByteArray
  Time : Int
  deriving DecidableEq,Inhabited
def Co : ByteArray:=⟨#[]⟩
def Ie : ByteArray:=⟨#[98,108,117,101]⟩
def Of : ByteArray:=⟨#[114,101,100]⟩
def Ya : ByteArray:=⟨#[97,110,121]⟩
def Jg : ByteArray:=⟨#[114,97]⟩
def Mp : ByteArray:=⟨#[114,98]⟩
def Mq : ByteArray:=⟨#[114,99]⟩
def Kh : ByteArray:=⟨#[97,110,110]⟩
def Pa : ByteArray:=⟨#[98,101,97]⟩
def Pb : ByteArray:=⟨#[99,105,100]⟩
def Pc : ByteArray:=⟨#[100,97,110]⟩
def Pd : ByteArray:=⟨#[101,118,101]⟩
def Tj : ByteArray:=⟨#[103,114,101,121]⟩
def Jx : ByteArray:=⟨#[0,1,2,2,3,3,3,3,4,4,4,4,4,4,4,4,5,5,5,5,5,5,5,5,5,5,5,5,5,5,5,5,6,6,6,6,6,6,6,6,6,6,6,6,6,6,6,6,6,6,6,6,6,6,6,6,6,6,6,6,6,6,6,6,7,7,7,7,7,7,7,7,7,7,7,7,7,7,7,7,7,7,7,7,7,7,7,7,7,7,7,7,7,7,7,7,7,7,7,7,7,7,7,7,7,7,7,7,7,7,7,7,7,7,7,7,7,7,7,7,7,7,7,7,7,7,7,7,8,8,8,8,8,8,8,8,8,8,8,8,8,8,8,8,8,8,8,8,8,8,8,8,8,8,8,8,8,8,8,8,8,8,8,8,8,8,8,8,8,8,8,8,8,8,8,8,8,8,8,8,8,8,8,8,8,8,8,8,8,8,8,8,8,8,8,8,8,8,8,8,8,8,8,8,8,8,8,8,8,8,8,8,8,8,8,8,8,8,8,8,8,8,8,8,8,8,8,8,8,8,8,8,8,8,8,8,8,8,8,8,8,8,8,8,8,8,8,8,8,8,8,8,8,8,8,8]⟩
def k_A : ByteArray:=⟨#[65]⟩
def Ek : ByteArray:=⟨#[97,98,99,100,101,102,103,104,105,106,107,108,109,110,111,112,113,114,115,116,117,118,119,120,121,122,48,49,50,51,52,53,54,55,56,57,45,95]⟩
def Iz : ByteArray:=⟨#[32]⟩
def Hb : ByteArray:=⟨#[97,98,99,100,101,102,103,104,105,106,107,108,109,110,111,112,113,114,115,116,117,118,119,120,121,122]⟩
def k_r : ByteArray:=⟨#[114]⟩
def Ki (p_x : Int) (p_n : Int) : Option Int :=
  if decide (p_n < 1) then
  some 0
  else
  Chk (!decide (p_n = 0)) (
  Ex (fun (x1 : Int) =>
  some x1) (fun j1 =>
  if decide ((Int.tmod p_x p_n) < 0) then
  j1 (W ((Int.tmod p_x p_n) + p_n))
  else
  j1 (Int.tmod p_x p_n)))
def Jo (p_s_L : List Int) (p_s_at : Int) (p_n : Int) : Option (Int × Int) :=
  if decide ((p_s_L.length : Int) = 0) then
  Option.bind (Ki (W ((W (p_s_at + 1)) * 7919)) p_n) (fun r1 =>
  some (r1,W (p_s_at + 1)))
  else
  Chk (!decide ((p_s_L.length : Int) = 0)) (
  Chk (!decide ((p_s_L.length : Int) = 0)) (
  Chk (inB (Int.tmod (W ((W (p_s_at + 1)) - 1)) (p_s_L.length : Int)) p_s_L.length) (
  Option.bind (Ki (nth p_s_L (Int.tmod (W ((W (p_s_at + 1)) - 1)) (p_s_L.length : Int))) 1073741824) (fun r2 =>
  Option.bind (Ki (W (r2 + (W ((W (Int.tdiv (W ((W (p_s_at + 1)) - 1)) (p_s_L.length : Int))) * (W (7919 + (Int.tmod (W ((W (p_s_at + 1)) - 1)) (p_s_L.length : Int)))))))) p_n) (fun r3 =>
  some (r3,W (p_s_at + 1)))))))
def Jy (p_s_L : List Int) (p_s_at : Int) (p_low : Int) (p_high : Int) : Option (Int × Int) :=
  if decide (p_high < p_low) then
  some (p_low,p_s_at)
  else
  Option.bind (Jo p_s_L p_s_at (W ((W (p_high - p_low)) + 1))) (fun r1 =>
  some (W (p_low + r1.1),r1.2))
def Jp (p_s_L : List Int) (p_s_at : Int) (p_l : List ByteArray) : Option (ByteArray × Int) :=
  Option.bind (Jo p_s_L p_s_at (p_l.length : Int)) (fun r1 =>
  Chk (inB r1.1 p_l.length) (
  some ((nth p_l r1.1),r1.2)))
def Ku (p_s_L : List Int) (p_s_at : Int) (p_l : List Int) : Option (Int × Int) :=
  Option.bind (Jo p_s_L p_s_at (p_l.length : Int)) (fun r1 =>
  Chk (inB r1.1 p_l.length) (
  some ((nth p_l r1.1),r1.2)))
def Jq (p_s_L : List Int) (p_s_at : Int) (p_n : Int) : Option (Bool × Int) :=
  Option.bind (Jo p_s_L p_s_at p_n) (fun r1 =>
  some (decide (r1.1 = 0),r1.2))
def Nv (p_s_L : List Int) (p_s_at : Int) (p_low : Int) (p_high : Int) : Option (Int × Int) :=
  Option.bind (Jq p_s_L p_s_at 12) (fun r1 =>
  if r1.1 then
  Option.bind (Ku p_s_L r1.2 [W (p_low - 1),W (p_high + 1),p_low,p_high,(-1099511627776),1099511627776]) (fun r2 =>
  some (r2.1,r2.2))
  else
  Option.bind (Jy p_s_L r1.2 p_low p_high) (fun r3 =>
  some (r3.1,r3.2)))
def Ht (r1 : Int × Int) (p_s_L : List Int) (j1 : (List Dj) → Int → Option ((List Dj) × Int)) : Nat → (List Dj) → Int → Int → Option ((List Dj) × Int)
  | 0,_,_,_=>none
  | m1 + 1,x1,x2,x3=>if decide (x3 < r1.1) then
  Option.bind (Jp p_s_L x2 [Ie,Of,Ya]) (fun r2 =>
  Option.bind (Ku p_s_L r2.2 [0,1,2,3,5]) (fun r3 =>
  Option.bind (Ku p_s_L r3.2 [1,2,3]) (fun r4 =>
  Option.bind (Jq p_s_L r4.2 50) (fun r5 =>
  Ex (fun (x4 : ByteArray) (x5 : Int) (x6 : Int) (x7 : Int) =>
  Chk (Pj x1.length) (
  Ht r1 p_s_L j1 m1 (x1 ++ [(Dj.mk x4 (Ha.mk x5 x6))]) x7 (W (x3 + 1)))) (fun j2 =>
  if r5.1 then
  Option.bind (Jp p_s_L r5.2 [Ie,Co]) (fun r6 =>
  Option.bind (Nv p_s_L r6.2 0 1000000000) (fun r7 =>
  Option.bind (Nv p_s_L r7.2 1 1000000) (fun r8 =>
  j2 r6.1 r7.1 r8.1 r8.2)))
  else
  j2 r2.1 r3.1 r4.1 r5.2)))))
  else
  j1 x1 x2
def Nj (p_s_L : List Int) (p_s_at : Int) : Option ((List Dj) × Int) :=
  Option.bind (Jy p_s_L p_s_at 0 5) (fun r1 =>
  Ex (fun (x1 : List Dj) (x2 : Int) =>
  some (x1,x2)) (fun j1 =>
  Ht r1 p_s_L j1 ((r1.1 - 0).toNat + 2) ([] : List Dj) r1.2 0))
def Tk (p_x : Int) : Option Int :=
  Ex (fun (x1 : Int) (x2 : Int) =>
  Ex (fun (x3 : Int) (x4 : Int) =>
  Chk (inB (IntKind.wrap .u8 x3) Jx.size) (
  some (W (x4 + (W (Px Jx (IntKind.wrap .u8 x3))))))) (fun j2 =>
  if decide (256 ≤ x1) then
  j2 (Dt .u32 x1 8) (W (x2 + 8))
  else
  j2 x1 x2)) (fun j1 =>
  if decide (65536 ≤ p_x) then
  j1 (Dt .u32 p_x 16) 16
  else
  j1 p_x 0)
def Rg (p_x : Int) : Option Int :=
  Ex (fun (x1 : Int) (x2 : Int) =>
  Ex (fun (x3 : Int) (x4 : Int) =>
  Ex (fun (x5 : Int) (x6 : Int) =>
  Chk (inB (IntKind.wrap .u8 x5) Jx.size) (
  some (W (x6 + (W (Px Jx (IntKind.wrap .u8 x5))))))) (fun j3 =>
  if decide (256 ≤ x3) then
  j3 (Dt .u64 x3 8) (W (x4 + 8))
  else
  j3 x3 x4)) (fun j2 =>
  if decide (65536 ≤ x1) then
  j2 (Dt .u64 x1 16) (W (x2 + 16))
  else
  j2 x1 x2)) (fun j1 =>
  if decide (4294967296 ≤ p_x) then
  j1 (Dt .u64 p_x 32) 32
  else
  j1 p_x 0)
def Sg (p_x : Int) : Option Int :=
  if false then
  Option.bind (Tk (IntKind.wrap .u32 p_x)) (fun r1 =>
  some r1)
  else
  Option.bind (Rg p_x) (fun r2 =>
  some r2)
def Ef (s t : ByteArray) : Int:=Lib.compareBytes s.data.toList t.data.toList
def En (p_s : An) : Int :=
  if decide (p_s.Rank = 0) then
  301
  else
  p_s.Rank
def Nk (p_n : Int) : Int :=
  if decide (p_n < 0) then
  (-1)
  else
  if decide (0 < p_n) then
  1
  else
  0
def Dx (p_a : An) (p_b : An) : Int :=
  if !decide (p_a.Race = p_b.Race) then
  (Ef p_a.Race p_b.Race)
  else
  if !decide ((En p_a) = (En p_b)) then
  (Nk (W ((En p_a) - (En p_b))))
  else
  (Ef p_a.Who p_b.Who)
def Cl (p_a : Int) (j2 : (List An) → Option (List An)) : Nat → (List An) → Int → Option (List An)
  | 0,_,_=>none
  | m2 + 1,x3,x4=>Ex (fun (x5 : Bool) =>
  if x5 then
  Chk (inB (W (x4 - 1)) x3.length) (
  Chk (inB x4 x3.length) (
  Chk (inB x4 x3.length) (
  Chk (inB (W (x4 - 1)) (x3.set x4.toNat (nth x3 (W (x4 - 1)))).length) (
  Cl p_a j2 m2 ((x3.set x4.toNat (nth x3 (W (x4 - 1)))).set ((W (x4 - 1)).toNat) (nth x3 x4)) (W (x4 - 1))))))
  else
  j2 x3) (fun j3 =>
  if decide (p_a < x4) then
  Chk (inB x4 x3.length) (
  Chk (inB (W (x4 - 1)) x3.length) (
  j3 (decide ((Dx (nth x3 x4) (nth x3 (W (x4 - 1)))) < 0))))
  else
  j3 false)
def Ct (p_b : Int) (p_a : Int) (j1 : (List An) → Option (List An)) : Nat → (List An) → Int → Option (List An)
  | 0,_,_=>none
  | m1 + 1,x1,x2=>if decide (x2 < p_b) then
  Ex (fun (x3 : List An) =>
  Ct p_b p_a j1 m1 x3 (W (x2 + 1))) (fun j2 =>
  Cl p_a j2 ((x2 - p_a).toNat + 2) x1 x2)
  else
  j1 x1
def Ed (p_data : List An) (p_a : Int) (p_b : Int) : Option (List An) :=
  Ex (fun (x1 : List An) =>
  some x1) (fun j1 =>
  Ct p_b p_a j1 ((p_b - (W (p_a + 1))).toNat + 2) p_data (W (p_a + 1)))
def Dd (p_data : List An) : Nat → Int → Int → Int → Bool → Option (List An)
  | 0,_,_,_,_=>none
  | _ + 1,x1,x2,x3,x4=>if decide ((W (x2 - x1)) ≤ 12) then
  Option.bind (Ed p_data x1 x2) (fun r1 =>
  some r1)
  else
  if decide (x3 = 0) then
  none
  else
  if !x4 then
  none
  else
  none
def Fi (p_data : List An) (p_a : Int) (p_b : Int) (p_limit : Int) : Option (List An) :=
  Dd p_data 4611686018427387904 p_a p_b p_limit true
def Dv (p_x : List An) : Option (List An) :=
  Option.bind (Sg (IntKind.wrap .u64 (p_x.length : Int))) (fun r1 =>
  Option.bind (Fi p_x 0 (p_x.length : Int) r1) (fun r2 =>
  some r2))
def Ga (p_s_L : List Int) (y1 : ByteArray) (r1 : Bool × Int) (j2 : (List An) → Int → Option ((List An) × Int)) : List ByteArray → Nat → (List An) → Int → Option ((List An) × Int)
  | [],_,x3,x4=>j2 x3 x4
  | y2 :: ys2,i2,x3,x4=>Ex (fun (x5 : List An) (x6 : Int) =>
  Ga p_s_L y1 r1 j2 ys2 (i2 + 1) x5 x6) (fun j3 =>
  Option.bind (Jq p_s_L x4 4) (fun r2 =>
  Ex (fun (x7 : List An) (x8 : Int) =>
  j3 x7 x8) (fun j4 =>
  if !r2.1 then
  Option.bind (Jp p_s_L r2.2 [Ie,Ie,Of,Tj,Co]) (fun r3 =>
  Option.bind (Ku p_s_L r3.2 [0,1,2,2,3,4]) (fun r4 =>
  Chk (Pj x3.length) (
  j4 (x3 ++ [(An.mk y1 y2 r3.1 r4.1 r1.1)]) r4.2)))
  else
  j4 x3 r2.2)))
def Fp (x9 : List An) (i3 : Nat) (j7 : Int → Option ((List An) × Int)) : List An → Nat → Int → Option ((List An) × Int)
  | [],_,x11=>j7 x11
  | y4 :: ys4,i4,x11=>Ex (fun (x12 : Int) =>
  Fp x9 i3 j7 ys4 (i4 + 1) x12) (fun j8 =>
  Ex (fun (x13 : Int) =>
  j8 x13) (fun j9 =>
  if (((decide (0 < y4.Rank)) && (decide ((Int.tmod y4.Rank 10) < (Int.tmod ((nth x9 (i3 : Int)).Rank) 10)))) && (decide (0 < ((nth x9 (i3 : Int)).Rank)))) then
  j9 (W (x11 + 1))
  else
  j9 x11))
def Ey (j5 : (List An) → Option ((List An) × Int)) : List An → Nat → (List An) → Option ((List An) × Int)
  | [],_,x9=>j5 x9
  | _ :: ys3,i3,x9=>Ex (fun (x10 : List An) =>
  Ey j5 ys3 (i3 + 1) x10) (fun j6 =>
  Chk (inB (i3 : Int) x9.length) (
  Ex (fun (x11 : Int) =>
  Ex (fun (x14 : List An) =>
  j6 x14) (fun j10 =>
  if decide (0 < ((nth x9 (i3 : Int)).Rank)) then
  Chk (inB (i3 : Int) x9.length) (
  j10 (x9.set ((i3 : Int).toNat) (An.mk ((nth x9 (i3 : Int)).Race) ((nth x9 (i3 : Int)).Who) ((nth x9 (i3 : Int)).Club) (W (((nth x9 (i3 : Int)).Rank) + (W (10 * x11)))) ((nth x9 (i3 : Int)).Relay))))
  else
  j10 x9)) (fun j7 =>
  Fp x9 i3 j7 x9 0 1)))
def Et (j11 : (List An) → Option ((List An) × Int)) : List An → Nat → (List An) → Option ((List An) × Int)
  | [],_,x15=>j11 x15
  | _ :: ys5,i5,x15=>Chk (inB (i5 : Int) x15.length) (
  Chk (inB (i5 : Int) x15.length) (
  Et j11 ys5 (i5 + 1) (x15.set ((i5 : Int).toNat) (An.mk ((nth x15 (i5 : Int)).Race) ((nth x15 (i5 : Int)).Who) ((nth x15 (i5 : Int)).Club) (W (Int.tdiv ((nth x15 (i5 : Int)).Rank) 10)) ((nth x15 (i5 : Int)).Relay)))))
def Ej (p_s_L : List Int) (j1 : (List An) → Int → Option ((List An) × Int)) : List ByteArray → Nat → (List An) → Int → Option ((List An) × Int)
  | [],_,x1,x2=>j1 x1 x2
  | y1 :: ys1,i1,x1,x2=>Option.bind (Jq p_s_L x2 3) (fun r1 =>
  Ex (fun (x3 : List An) (x4 : Int) =>
  Ex (fun (x9 : List An) =>
  Ex (fun (x15 : List An) =>
  Option.bind (Dv x15) (fun r5 =>
  Chk (decide (x1.length + r5.length < 1073741824)) (
  Ej p_s_L j1 ys1 (i1 + 1) (x1 ++ r5) x4))) (fun j11 =>
  Et j11 x9 0 x9)) (fun j5 =>
  Ey j5 x3 0 x3)) (fun j2 =>
  Ga p_s_L y1 r1 j2 ([Kh,Pa,Pb,Pc,Pd] : List ByteArray) 0 ([] : List An) r1.2))
def Kj (p_s_L : List Int) (p_s_at : Int) : Option ((List An) × Int) :=
  Ex (fun (x1 : List An) (x2 : Int) =>
  some (x1,x2)) (fun j1 =>
  Ej p_s_L j1 ([Jg,Mp,Mq] : List ByteArray) 0 ([] : List An) p_s_at)
def Hu (r3 : Int × Int) (p_s_L : List Int) (j2 : (List An) → Int → Option ((List An) × Int)) : Nat → (List An) → Int → Int → Option ((List An) × Int)
  | 0,_,_,_=>none
  | m1 + 1,x3,x4,x5=>if decide (x5 < r3.1) then
  Option.bind (Jp p_s_L x4 [Ie,Of]) (fun r4 =>
  Chk (Pj x3.length) (
  Hu r3 p_s_L j2 m1 (x3 ++ [(An.mk Jg (Utf8.encode (IntKind.wrap .i32 (W (97 + x5)))) r4.1 1 false)]) r4.2 (W (x5 + 1))))
  else
  j2 x3 x4
def Nl (p_s_L : List Int) (p_s_at : Int) : Option ((List An) × Int) :=
  Option.bind (Kj p_s_L p_s_at) (fun r1 =>
  Option.bind (Jq p_s_L r1.2 20) (fun r2 =>
  Ex (fun (x1 : Int) (x2 : List An) =>
  Ex (fun (x6 : Int) (x7 : Bool) =>
  Ex (fun (x8 : List An) (x9 : Int) =>
  some (x8,x9)) (fun j4 =>
  if x7 then
  Option.bind (Jo p_s_L x6 (x2.length : Int)) (fun r6 =>
  Chk (inB r6.1 x2.length) (
  Option.bind (Jo p_s_L r6.2 4) (fun r7 =>
  Ex (fun (x10 : List An) (x11 : Int) =>
  j4 x10 x11) (fun j5 =>
  Ex (fun (x12 : List An) (x13 : Int) =>
  j5 x12 x13) (fun j6 =>
  if decide (r7.1 = 0) then
  Ex (fun (x14 : List An) (x15 : Int) =>
  j6 x14 x15) (fun j7 =>
  Option.bind (Jp p_s_L r7.2 [(nth x2 r6.1).Race,Co,Jg]) (fun r8 =>
  Option.bind (Jp p_s_L r8.2 [(nth x2 r6.1).Who,k_A,Kh]) (fun r9 =>
  j7 ((x2.set r6.1.toNat (An.mk r8.1 ((nth x2 r6.1).Who) ((nth x2 r6.1).Club) ((nth x2 r6.1).Rank) ((nth x2 r6.1).Relay))).set r6.1.toNat (An.mk r8.1 r9.1 ((nth x2 r6.1).Club) ((nth x2 r6.1).Rank) ((nth x2 r6.1).Relay))) r9.2)))
  else
  Ex (fun (x16 : List An) (x17 : Int) =>
  j6 x16 x17) (fun j8 =>
  if decide (r7.1 = 1) then
  Option.bind (Jp p_s_L r7.2 [Ie,k_A]) (fun r10 =>
  j8 (x2.set r6.1.toNat (An.mk ((nth x2 r6.1).Race) ((nth x2 r6.1).Who) r10.1 ((nth x2 r6.1).Rank) ((nth x2 r6.1).Relay))) r10.2)
  else
  Ex (fun (x18 : List An) (x19 : Int) =>
  j8 x18 x19) (fun j9 =>
  if decide (r7.1 = 2) then
  Option.bind (Nv p_s_L r7.2 0 5) (fun r11 =>
  j9 (x2.set r6.1.toNat (An.mk ((nth x2 r6.1).Race) ((nth x2 r6.1).Who) ((nth x2 r6.1).Club) r11.1 ((nth x2 r6.1).Relay))) r11.2)
  else
  j9 (x2.set r6.1.toNat (An.mk ((nth x2 r6.1).Race) ((nth x2 r6.1).Who) ((nth x2 r6.1).Club) ((nth x2 r6.1).Rank) (!((nth x2 r6.1).Relay)))) r7.2)))))))
  else
  j4 x2 x6)) (fun j3 =>
  if (decide (0 < (x2.length : Int))) then
  Option.bind (Jq p_s_L x1 12) (fun r5 =>
  j3 r5.2 r5.1)
  else
  j3 x1 false)) (fun j1 =>
  if r2.1 then
  Option.bind (Jy p_s_L r2.2 9 12) (fun r3 =>
  Ex (fun (x3 : List An) (x4 : Int) =>
  j1 x4 x3) (fun j2 =>
  Hu r3 p_s_L j2 ((r3.1 - 0).toNat + 2) ([] : List An) r3.2 0))
  else
  j1 r2.2 r1.1)))
def Fd (p_n : Int) (p_low : Int) (p_high : Int) : Bool :=
  ((decide (p_low ≤ p_n)) && (decide (p_n ≤ p_high)))
def Mx (p_a : Ha) (p_b : Ha) : Bool :=
  decide ((W (p_b.Num * p_a.Den)) < (W (p_a.Num * p_b.Den)))
def Ig (j1 : Option ((List Int) × Int)) : List Dj → Nat → Option ((List Int) × Int)
  | [],_=>j1
  | y1 :: ys1,i1=>if decide (y1.Key = Co) then
  some (([] : List Int),5)
  else
  if ((!(Fd y1.Points.Den 1 1000000)) || (!(Fd y1.Points.Num 0 1000000000))) then
  some (([] : List Int),1)
  else
  Ig j1 ys1 (i1 + 1)
def Io (y2 : Dj) (j3 : Int → Option ((List Int) × Int)) : List Dj → Nat → Int → Option ((List Int) × Int)
  | [],_,x2=>j3 x2
  | y3 :: ys3,i3,x2=>Ex (fun (x3 : Int) =>
  Io y2 j3 ys3 (i3 + 1) x3) (fun j4 =>
  Ex (fun (x4 : Int) =>
  j4 x4) (fun j5 =>
  if (Mx y3.Points y2.Points) then
  j5 (W (x2 + 1))
  else
  j5 x2))
def Ih (p_l : List Dj) (j2 : (List Int) → Option ((List Int) × Int)) : List Dj → Nat → (List Int) → Option ((List Int) × Int)
  | [],_,x1=>j2 x1
  | y2 :: ys2,i2,x1=>Ex (fun (x2 : Int) =>
  Chk (Pj x1.length) (
  Ih p_l j2 ys2 (i2 + 1) (x1 ++ [x2]))) (fun j3 =>
  Io y2 j3 p_l 0 1)
def Og (p_l : List Dj) : Option ((List Int) × Int) :=
  if decide (2000 < (p_l.length : Int)) then
  some (([] : List Int),2)
  else
  Ex (Ex (fun (x1 : List Int) =>
  some (x1,0)) (fun j2 =>
  Ih p_l j2 p_l 0 ([] : List Int))) (fun j1 =>
  Ig j1 p_l 0)
def Oh (s c : ByteArray) : Option ByteArray :=
  Chk (decide (s.size ≤ 9223372036854775807)) (Chk (decide (c.size < 4294967281)) (Chk (c.data.toList.all fun b=>decide (b.toNat < 128)) (some ⟨(Lib.trimS s.data.toList c.data.toList).toArray⟩)))
def Kv (p_s : ByteArray) : Option Bool :=
  Ex (fun (c1 : Bool) =>
  Ex (fun (c2 : Bool) =>
  Ex (fun (c3 : Bool) =>
  some c3) (fun j3 =>
  if c2 then Option.bind (Oh p_s Ek) (fun r1 =>
  j3 (c2 && (decide (r1 = Co)))) else j3 (c2 && true))) (fun j2 =>
  if c1 then Chk (inB 0 p_s.size) (
  j2 (c1 && (decide ((Px p_s 0) ≤ 122)))) else j2 (c1 && true))) (fun j1 =>
  if ((decide (1 ≤ (p_s.size : Int))) && (decide ((p_s.size : Int) ≤ 40))) then Chk (inB 0 p_s.size) (
  j1 (((decide (1 ≤ (p_s.size : Int))) && (decide ((p_s.size : Int) ≤ 40))) && (decide (97 ≤ (Px p_s 0))))) else j1 (((decide (1 ≤ (p_s.size : Int))) && (decide ((p_s.size : Int) ≤ 40))) && true))
def Ho (p_a : Int) (p_b : Int) : Int :=
  Ex (fun (x1 : Int) =>
  Ex (fun (x2 : Int) =>
  W (x1 - x2)) (fun j2 =>
  if decide (p_b = 0) then
  j2 301
  else
  j2 p_b)) (fun j1 =>
  if decide (p_a = 0) then
  j1 301
  else
  j1 p_a)
def Ii (j1 : Int) : List Int → Nat → Int
  | [],_=>j1
  | y1 :: ys1,i1=>if !decide (y1 = 0) then
  y1
  else
  Ii j1 ys1 (i1 + 1)
def My (p_vals : List Int) : Int :=
  Ex (0) (fun j1 =>
  Ii j1 p_vals 0)
def Jr (p_a : An) (p_b : An) : Int :=
  (My [(Ef p_a.Race p_b.Race),(Ho p_a.Rank p_b.Rank),(Ef p_a.Who p_b.Who)])
def Ip (p_l : List An) (x2 : Int) (j2 : Int → Option (List (List An))) : Nat → Int → Option (List (List An))
  | 0,_=>none
  | m2 + 1,x3=>Ex (fun (c1 : Bool) =>
  if c1 then
  Ip p_l x2 j2 m2 (W (x3 + 1))
  else
  j2 x3) (fun j3 =>
  if (decide (x3 < (p_l.length : Int))) then Chk (inB x3 p_l.length) (
  Chk (inB x2 p_l.length) (
  j3 ((decide (x3 < (p_l.length : Int))) && (decide (((nth p_l x3).Race) = ((nth p_l x2).Race)))))) else j3 ((decide (x3 < (p_l.length : Int))) && true))
def Hq (p_l : List An) (j1 : (List (List An)) → Option (List (List An))) : Nat → (List (List An)) → Int → Option (List (List An))
  | 0,_,_=>none
  | m1 + 1,x1,x2=>if decide (x2 < (p_l.length : Int)) then
  Ex (fun (x3 : Int) =>
  Chk (Rz x2 x3 p_l.length) (
  Chk (Pj x1.length) (
  Hq p_l j1 m1 (x1 ++ [cut p_l x2 x3]) x3))) (fun j2 =>
  Ip p_l x2 j2 (((p_l.length : Int) - (W (x2 + 1))).toNat + 2) (W (x2 + 1)))
  else
  j1 x1
def Lt (p_l : List An) : Option (List (List An)) :=
  Ex (fun (x1 : List (List An)) =>
  some x1) (fun j1 =>
  Hq p_l j1 (((p_l.length : Int) - 0).toNat + 2) ([] : List (List An)) 0)
def Lu (p_x : An) (p_a1 : List An) : Option Bool :=
  Chk (inB 0 p_a1.length) (
  some (!decide (p_x.Relay = ((nth p_a1 0).Relay))))
def Da (p_f_0 : List An) (j1 : Option Int) : List An → Nat → Option Int
  | [],_=>j1
  | y1 :: ys1,i1=>Option.bind (Lu y1 p_f_0) (fun r1 =>
  if r1 then
  some (i1 : Int)
  else
  Da p_f_0 j1 ys1 (i1 + 1))
def Gh (p_s : List An) (p_f_0 : List An) : Option Int :=
  Ex (some (-1)) (fun j1 =>
  Da p_f_0 j1 p_s 0)
def Fx (p_s : List An) (p_f_0 : List An) : Option Bool :=
  Option.bind (Gh p_s p_f_0) (fun r1 =>
  some (decide (0 ≤ r1)))
def Gb (j1 : (List (Cv × Bool)) → Option Int) : List An → Nat → (List (Cv × Bool)) → Option Int
  | [],_,x1=>j1 x1
  | y1 :: ys1,i1,x1=>if Cr x1 (Cv.mk y1.Race y1.Who) false then
  some 6
  else
  Gb j1 ys1 (i1 + 1) (Mo x1 (Cv.mk y1.Race y1.Who) true)
def Gq (j2 : Option Int) : List (List An) → Nat → Option Int
  | [],_=>j2
  | y2 :: ys2,i2=>Option.bind (Fx y2 y2) (fun r3 =>
  if r3 then
  some 3
  else
  Gq j2 ys2 (i2 + 1))
def Gt (y3 : (List An)) (j4 : Option Int) : List An → Nat → Option Int
  | [],_=>j4
  | y4 :: ys4,i4=>Ex (fun (c1 : Bool) =>
  if c1 then
  some 16
  else
  Gt y3 j4 ys4 (i4 + 1)) (fun j5 =>
  if ((decide (0 < y4.Rank)) && (!decide (y4.Rank = (W ((i4 : Int) + 1))))) then Ex (fun (c2 : Bool) =>
  j5 (((decide (0 < y4.Rank)) && (!decide (y4.Rank = (W ((i4 : Int) + 1))))) && c2)) (fun j6 =>
  if (decide ((i4 : Int) = 0)) then j6 ((decide ((i4 : Int) = 0)) || true) else Chk (inB (W ((i4 : Int) - 1)) y3.length) (
  j6 ((decide ((i4 : Int) = 0)) || (!decide (y4.Rank = ((nth y3 (W ((i4 : Int) - 1))).Rank)))))) else j5 (((decide (0 < y4.Rank)) && (!decide (y4.Rank = (W ((i4 : Int) + 1))))) && true))
def Gc (j3 : Option Int) : List (List An) → Nat → Option Int
  | [],_=>j3
  | y3 :: ys3,i3=>Ex (Gc j3 ys3 (i3 + 1)) (fun j4 =>
  Gt y3 j4 y3 0)
def Er (y5 : (List An)) (j8 : Option Int) : Nat → Int → Option Int
  | 0,_=>none
  | m1 + 1,x2=>if decide (x2 < (y5.length : Int)) then
  Chk (inB x2 y5.length) (
  Ex (fun (c3 : Bool) =>
  if c3 then
  some 12
  else
  Er y5 j8 m1 (W (x2 + 1))) (fun j9 =>
  if (decide (0 < ((nth y5 x2).Rank))) then Chk (inB x2 y5.length) (
  Chk (inB (W (x2 - 10)) y5.length) (
  j9 ((decide (0 < ((nth y5 x2).Rank))) && (decide (((nth y5 x2).Rank) = ((nth y5 (W (x2 - 10))).Rank)))))) else j9 ((decide (0 < ((nth y5 x2).Rank))) && true)))
  else
  j8
def Gd (j7 : Option Int) : List (List An) → Nat → Option Int
  | [],_=>j7
  | y5 :: ys5,i5=>Ex (Gd j7 ys5 (i5 + 1)) (fun j8 =>
  Er y5 j8 (((y5.length : Int) - 10).toNat + 2) 10)
def Nq (p_l : List An) : Option Int :=
  Ex (fun (x1 : List (Cv × Bool)) =>
  Option.bind (Lt p_l) (fun r1 =>
  Ex (Ex (Ex (some 0) (fun j7 =>
  Gd j7 r1 0)) (fun j3 =>
  Gc j3 r1 0)) (fun j2 =>
  Gq j2 r1 0))) (fun j1 =>
  Gb j1 p_l 0 ([] : List (Cv × Bool)))
def Dh (p_l : List An) (j1 : Option Int) : List An → Nat → Option Int
  | [],_=>j1
  | y1 :: ys1,i1=>Option.bind (Kv y1.Race) (fun r1 =>
  Ex (fun (c1 : Bool) =>
  Ex (fun (c2 : Bool) =>
  if c2 then
  some 5
  else
  if !(Fd y1.Rank 0 300) then
  some 1
  else
  Ex (fun (x1 : Bool) =>
  if x1 then
  some 7
  else
  Dh p_l j1 ys1 (i1 + 1)) (fun j5 =>
  if decide (0 < (i1 : Int)) then
  Chk (inB (W ((i1 : Int) - 1)) p_l.length) (
  j5 (decide (0 ≤ (Jr (nth p_l (W ((i1 : Int) - 1))) y1))))
  else
  j5 false)) (fun j3 =>
  if c1 then j3 (c1 || true) else Ex (fun (c3 : Bool) =>
  j3 (c1 || c3)) (fun j4 =>
  if (!decide (y1.Club = Co)) then Option.bind (Kv y1.Club) (fun r3 =>
  j4 ((!decide (y1.Club = Co)) && (!r3))) else j4 ((!decide (y1.Club = Co)) && true)))) (fun j2 =>
  if (!r1) then j2 ((!r1) || true) else Option.bind (Kv y1.Who) (fun r2 =>
  j2 ((!r1) || (!r2)))))
def Jk (p_l : List An) : Option Int :=
  if decide (2000 < (p_l.length : Int)) then
  some 2
  else
  Ex (Option.bind (Nq p_l) (fun r4 =>
  some r4)) (fun j1 =>
  Dh p_l j1 p_l 0)
def Lk (p_w : Ci) (p_a1 : An) : Bool :=
  decide (p_w.club_ = p_a1.Club)
def Dq (p_f_0 : An) (j1 : Int) : List Ci → Nat → Int
  | [],_=>j1
  | y1 :: ys1,i1=>if (Lk y1 p_f_0) then
  (i1 : Int)
  else
  Dq p_f_0 j1 ys1 (i1 + 1)
def Dg (p_s : List Ci) (p_f_0 : An) : Int :=
  Ex ((-1)) (fun j1 =>
  Dq p_f_0 j1 p_s 0)
def Fu (p_a : Ci) (p_b : Ci) : Int :=
  (My [W (p_b.many_.a0_ - p_a.many_.a0_),W (p_b.many_.a1_ - p_a.many_.a1_),W (p_b.many_.a2_ - p_a.many_.a2_),(Ef p_a.club_ p_b.club_)])
def Cs (p_a : Int) (j2 : (List Ci) → Option (List Ci)) : Nat → (List Ci) → Int → Option (List Ci)
  | 0,_,_=>none
  | m2 + 1,x3,x4=>Ex (fun (x5 : Bool) =>
  if x5 then
  Chk (inB (W (x4 - 1)) x3.length) (
  Chk (inB x4 x3.length) (
  Chk (inB x4 x3.length) (
  Chk (inB (W (x4 - 1)) (x3.set x4.toNat (Ci.mk ((nth x3 (W (x4 - 1))).club_) ((nth x3 (W (x4 - 1))).many_))).length) (
  Cs p_a j2 m2 ((x3.set x4.toNat (Ci.mk ((nth x3 (W (x4 - 1))).club_) ((nth x3 (W (x4 - 1))).many_))).set ((W (x4 - 1)).toNat) (Ci.mk ((nth x3 x4).club_) ((nth x3 x4).many_))) (W (x4 - 1))))))
  else
  j2 x3) (fun j3 =>
  if decide (p_a < x4) then
  Chk (inB x4 x3.length) (
  Chk (inB (W (x4 - 1)) x3.length) (
  j3 (decide ((Fu (Ci.mk ((nth x3 x4).club_) ((nth x3 x4).many_)) (Ci.mk ((nth x3 (W (x4 - 1))).club_) ((nth x3 (W (x4 - 1))).many_))) < 0))))
  else
  j3 false)
def Cx (p_b : Int) (p_a : Int) (j1 : (List Ci) → Option (List Ci)) : Nat → (List Ci) → Int → Option (List Ci)
  | 0,_,_=>none
  | m1 + 1,x1,x2=>if decide (x2 < p_b) then
  Ex (fun (x3 : List Ci) =>
  Cx p_b p_a j1 m1 x3 (W (x2 + 1))) (fun j2 =>
  Cs p_a j2 ((x2 - p_a).toNat + 2) x1 x2)
  else
  j1 x1
def El (p_data : List Ci) (p_a : Int) (p_b : Int) : Option (List Ci) :=
  Ex (fun (x1 : List Ci) =>
  some x1) (fun j1 =>
  Cx p_b p_a j1 ((p_b - (W (p_a + 1))).toNat + 2) p_data (W (p_a + 1)))
def Dn (p_data : List Ci) : Nat → Int → Int → Int → Bool → Option (List Ci)
  | 0,_,_,_,_=>none
  | _ + 1,x1,x2,x3,x4=>if decide ((W (x2 - x1)) ≤ 12) then
  Option.bind (El p_data x1 x2) (fun r1 =>
  some r1)
  else
  if decide (x3 = 0) then
  none
  else
  if !x4 then
  none
  else
  none
def Gi (p_data : List Ci) (p_a : Int) (p_b : Int) (p_limit : Int) : Option (List Ci) :=
  Dn p_data 4611686018427387904 p_a p_b p_limit true
def Fh (p_x : List Ci) : Option (List Ci) :=
  Option.bind (Sg (IntKind.wrap .u64 (p_x.length : Int))) (fun r1 =>
  Option.bind (Gi p_x 0 (p_x.length : Int) r1) (fun r2 =>
  some r2))
def Kw (n : Int) : Option ByteArray :=
  Chk (decide (-9223372036854775808 ≤ n) && decide (n ≤ 9223372036854775807)) (some (⟨(Lib.itoa n).toArray⟩))
def Hv (j1 : (List Ci) → Option ((List Dy) × Int)) : List An → Nat → (List Ci) → Option ((List Dy) × Int)
  | [],_,x1=>j1 x1
  | y1 :: ys1,i1,x1=>Ex (fun (x2 : List Ci) =>
  Hv j1 ys1 (i1 + 1) x2) (fun j2 =>
  if ((decide (y1.Club = Co)) || (!(Fd y1.Rank 1 3))) then
  j2 x1
  else
  Ex (fun (x3 : List Ci) (x4 : Int) =>
  Chk (inB x4 x3.length) (
  Chk (inB (W (y1.Rank - 1)) 3) (
  Chk (inB x4 x3.length) (
  Chk (inB (W (y1.Rank - 1)) 3) (
  j2 (x3.set x4.toNat (Ci.mk ((nth x3 x4).club_) (Cj.mk (if (W (y1.Rank - 1)) = 0 then W ((nth [((nth x3 x4).many_).a0_,((nth x3 x4).many_).a1_,((nth x3 x4).many_).a2_] (W (y1.Rank - 1))) + 1) else ((nth x3 x4).many_).a0_) (if (W (y1.Rank - 1)) = 1 then W ((nth [((nth x3 x4).many_).a0_,((nth x3 x4).many_).a1_,((nth x3 x4).many_).a2_] (W (y1.Rank - 1))) + 1) else ((nth x3 x4).many_).a1_) (if (W (y1.Rank - 1)) = 2 then W ((nth [((nth x3 x4).many_).a0_,((nth x3 x4).many_).a1_,((nth x3 x4).many_).a2_] (W (y1.Rank - 1))) + 1) else ((nth x3 x4).many_).a2_))))))))) (fun j3 =>
  if decide ((Dg x1 y1) < 0) then
  Chk (Pj x1.length) (
  j3 (x1 ++ [(Ci.mk y1.Club (Cj.mk 0 0 0))]) (x1.length : Int))
  else
  j3 x1 (Dg x1 y1)))
def Hc (j4 : (List Dy) → Option ((List Dy) × Int)) : List Ci → Nat → (List Dy) → Option ((List Dy) × Int)
  | [],_,x5=>j4 x5
  | y2 :: ys2,i2,x5=>Option.bind (Kw y2.many_.a0_) (fun r3 =>
  Chk (decide (r3.size + Iz.size < 1073741824)) (
  Option.bind (Kw y2.many_.a1_) (fun r4 =>
  Chk (decide ((r3 ++ Iz).size + r4.size < 1073741824)) (
  Chk (decide (((r3 ++ Iz) ++ r4).size + Iz.size < 1073741824)) (
  Option.bind (Kw y2.many_.a2_) (fun r5 =>
  Chk (decide ((((r3 ++ Iz) ++ r4) ++ Iz).size + r5.size < 1073741824)) (
  Chk (Pj x5.length) (
  Hc j4 ys2 (i2 + 1) (x5 ++ [(Dy.mk y2.club_ ((((r3 ++ Iz) ++ r4) ++ Iz) ++ r5))])))))))))
def La (p_l : List An) : Option ((List Dy) × Int) :=
  Option.bind (Jk p_l) (fun r1 =>
  if !decide (r1 = 0) then
  some (([] : List Dy),r1)
  else
  Ex (fun (x1 : List Ci) =>
  Option.bind (Fh x1) (fun r2 =>
  Ex (fun (x5 : List Dy) =>
  some (x5,0)) (fun j4 =>
  Hc j4 r2 0 ([] : List Dy)))) (fun j1 =>
  Hv j1 p_l 0 ([] : List Ci)))
def Ev (p_n : Int) (p_low : Int) (p_high : Int) : Bool :=
  ((decide (p_low ≤ p_n)) && (decide (p_n ≤ p_high)))
def Ff (j1 : Int) : List Dj → Nat → Int
  | [],_=>j1
  | y1 :: ys1,i1=>if decide (y1.Key = Co) then
  5
  else
  if ((!(Ev y1.Points.Den 1 1000000)) || (!(Ev y1.Points.Num 0 1000000000))) then
  1
  else
  Ff j1 ys1 (i1 + 1)
def Gg (p_l : List Dj) : Int :=
  if decide (2000 < (p_l.length : Int)) then
  2
  else
  Ex (0) (fun j1 =>
  Ff j1 p_l 0)
def Gv (y1 : Dj) (j2 : Int → Option (List Int)) : List Dj → Nat → Int → Option (List Int)
  | [],_,x2=>j2 x2
  | y2 :: ys2,i2,x2=>Ex (fun (x3 : Int) =>
  Gv y1 j2 ys2 (i2 + 1) x3) (fun j3 =>
  Ex (fun (x4 : Int) =>
  j3 x4) (fun j4 =>
  if decide ((W (y1.Points.Num * y2.Points.Den)) < (W (y2.Points.Num * y1.Points.Den))) then
  j4 (W (x2 + 1))
  else
  j4 x2))
def Gw (p_l : List Dj) (j1 : (List Int) → Option (List Int)) : List Dj → Nat → (List Int) → Option (List Int)
  | [],_,x1=>j1 x1
  | y1 :: ys1,i1,x1=>Ex (fun (x2 : Int) =>
  Chk (Pj x1.length) (
  Gw p_l j1 ys1 (i1 + 1) (x1 ++ [x2]))) (fun j2 =>
  Gv y1 j2 p_l 0 1)
def Ll (p_l : List Dj) : Option (List Int) :=
  Ex (fun (x1 : List Int) =>
  some x1) (fun j1 =>
  Gw p_l j1 p_l 0 ([] : List Int))
def Ml (s : ByteArray) (c : Int) : Int:=Lib.indexByte s.data.toList c.toNat.toUInt8
def Hw (p_s : ByteArray) (p_some : ByteArray) (j1 : Option Bool) : Nat → Int → Option Bool
  | 0,_=>none
  | m1 + 1,x1=>if decide (x1 < (p_s.size : Int)) then
  Chk (inB x1 p_s.size) (
  if decide ((Ml p_some (Px p_s x1)) < 0) then
  some false
  else
  Hw p_s p_some j1 m1 (W (x1 + 1)))
  else
  j1
def Md (p_s : ByteArray) (p_some : ByteArray) : Option Bool :=
  Ex (some true) (fun j1 =>
  Hw p_s p_some j1 (((p_s.size : Int) - 0).toNat + 2) 0)
def Kx (p_s : ByteArray) : Option Bool :=
  Ex (fun (c1 : Bool) =>
  Ex (fun (c2 : Bool) =>
  some c2) (fun j2 =>
  if c1 then Option.bind (Md p_s Ek) (fun r2 =>
  j2 (c1 && r2)) else j2 (c1 && true))) (fun j1 =>
  if (Ev (p_s.size : Int) 1 40) then Chk (Rz 0 1 p_s.size) (
  Option.bind (Md (Zi p_s 0 1) Hb) (fun r1 =>
  j1 ((Ev (p_s.size : Int) 1 40) && r1))) else j1 ((Ev (p_s.size : Int) 1 40) && true))
def Db (p_l : List An) (j1 : Option Int) : List An → Nat → Option Int
  | [],_=>j1
  | y1 :: ys1,i1=>Option.bind (Kx y1.Race) (fun r1 =>
  Ex (fun (c1 : Bool) =>
  Ex (fun (c2 : Bool) =>
  if c2 then
  some 5
  else
  if !(Ev y1.Rank 0 300) then
  some 1
  else
  Ex (fun (x1 : Bool) =>
  if x1 then
  some 7
  else
  Db p_l j1 ys1 (i1 + 1)) (fun j5 =>
  if decide (0 < (i1 : Int)) then
  Chk (inB (W ((i1 : Int) - 1)) p_l.length) (
  j5 (decide (0 ≤ (Dx (nth p_l (W ((i1 : Int) - 1))) y1))))
  else
  j5 false)) (fun j3 =>
  if c1 then j3 (c1 || true) else Ex (fun (c3 : Bool) =>
  j3 (c1 || c3)) (fun j4 =>
  if (!decide (y1.Club = Co)) then Option.bind (Kx y1.Club) (fun r3 =>
  j4 ((!decide (y1.Club = Co)) && (!r3))) else j4 ((!decide (y1.Club = Co)) && true)))) (fun j2 =>
  if (!r1) then j2 ((!r1) || true) else Option.bind (Kx y1.Who) (fun r2 =>
  j2 ((!r1) || (!r2)))))
def Eo (y2 : An) (i2 : Nat) (j7 : Bool → Bool → Int → Int → Option Int) : List An → Nat → Bool → Bool → Int → Int → Option Int
  | [],_,x6,x7,x8,x9=>j7 x6 x7 x8 x9
  | y3 :: ys3,i3,x6,x7,x8,x9=>Ex (fun (x10 : Bool) (x11 : Bool) (x12 : Int) (x13 : Int) =>
  Eo y2 i2 j7 ys3 (i3 + 1) x10 x11 x12 x13) (fun j8 =>
  if !decide (y3.Race = y2.Race) then
  j8 x6 x7 x8 x9
  else
  Ex (fun (x14 : Int) =>
  Ex (fun (x15 : Int) =>
  j8 (x6 || ((!decide ((i3 : Int) = (i2 : Int))) && (decide (y3.Who = y2.Who)))) (x7 || (!decide (y3.Relay = y2.Relay))) x14 x15) (fun j10 =>
  if decide (y3.Rank = y2.Rank) then
  j10 (W (x9 + 1))
  else
  j10 x9)) (fun j9 =>
  if ((decide (0 < y3.Rank)) && (decide (y3.Rank < y2.Rank))) then
  j9 (W (x8 + 1))
  else
  j9 x8))
def Ep (p_l : List An) (j6 : Bool → Bool → Bool → Bool → Option Int) : List An → Nat → Bool → Bool → Bool → Bool → Option Int
  | [],_,x2,x3,x4,x5=>j6 x2 x3 x4 x5
  | y2 :: ys2,i2,x2,x3,x4,x5=>Ex (fun (x6 : Bool) (x7 : Bool) (x8 : Int) (x9 : Int) =>
  Ep p_l j6 ys2 (i2 + 1) x6 x7 (x4 || ((decide (0 < y2.Rank)) && (!decide (y2.Rank = (W (x8 + 1)))))) (x5 || ((decide (0 < y2.Rank)) && (decide (10 < x9))))) (fun j7 =>
  Eo y2 i2 j7 p_l 0 x2 x3 0 0)
def Fl (j11 : Option Int) : List Di → Nat → Option Int
  | [],_=>j11
  | y4 :: ys4,i4=>if y4.is_ then
  some y4.e_
  else
  Fl j11 ys4 (i4 + 1)
def Ja (p_l : List An) : Option Int :=
  if decide (2000 < (p_l.length : Int)) then
  some 2
  else
  Ex (Ex (fun (x2 : Bool) (x3 : Bool) (x4 : Bool) (x5 : Bool) =>
  Ex (some 0) (fun j11 =>
  Fl j11 ([(Di.mk x2 6),(Di.mk x3 3),(Di.mk x4 16),(Di.mk x5 12)] : List Di) 0)) (fun j6 =>
  Ep p_l j6 p_l 0 false false false false)) (fun j1 =>
  Db p_l j1 p_l 0)
def Jj (l : List ByteArray) : List ByteArray:=((l.map fun b=>b.data.toList).mergeSort fun x y=>decide (x ≤ y)).map fun b=>⟨b.toArray⟩
def Jl (p_x : List ByteArray) : Option (List ByteArray):=Chk (decide (p_x.length < 4611686018427387904)) (some (Jj p_x))
def Fw (p_s : List ByteArray) (x1 : Int) (j2 : (List ByteArray) → Int → Option (List ByteArray)) : Nat → (List ByteArray) → Int → Int → Option (List ByteArray)
  | 0,_,_,_=>none
  | m2 + 1,x2,x3,x4=>if decide (x4 < (((p_s.length : Int).toNat - x1.toNat : Nat) : Int)) then
  Ex (fun (x5 : List ByteArray) (x6 : Int) =>
  Fw p_s x1 j2 m2 x5 x6 (W (x4 + 1))) (fun j3 =>
  Chk (inB x4 ((p_s.length : Int).toNat - x1.toNat)) (
  Chk (inB (W (x4 - 1)) ((p_s.length : Int).toNat - x1.toNat)) (
  Ex (fun (x7 : List ByteArray) (x8 : Int) =>
  j3 x7 x8) (fun j4 =>
  if !decide ((nth (cut x2 x1 (p_s.length : Int)) x4) = (nth (cut x2 x1 (p_s.length : Int)) (W (x4 - 1)))) then
  Chk (inB x4 ((p_s.length : Int).toNat - x1.toNat)) (
  Chk (inB x3 x2.length) (
  j4 (x2.set x3.toNat (nth (cut x2 x1 (p_s.length : Int)) x4)) (W (x3 + 1))))
  else
  j4 x2 x3))))
  else
  j2 x2 x3
def Eu (p_s : List ByteArray) (j1 : Option (List ByteArray)) : Nat → Int → Option (List ByteArray)
  | 0,_=>none
  | m1 + 1,x1=>if decide (x1 < (p_s.length : Int)) then
  Chk (inB x1 p_s.length) (
  Chk (inB (W (x1 - 1)) p_s.length) (
  if decide ((nth p_s x1) = (nth p_s (W (x1 - 1)))) then
  Chk (Rz x1 (p_s.length : Int) p_s.length) (
  Ex (fun (x2 : List ByteArray) (x3 : Int) =>
  Chk (Rz x3 (x2.length : Int) x2.length) (
  Chk (Rz 0 x3 (clr x2 x3 (x2.length : Int) Co).length) (
  some (cut (clr x2 x3 (x2.length : Int) Co) (0 : Int) x3)))) (fun j2 =>
  Fw p_s x1 j2 (((((p_s.length : Int).toNat - x1.toNat : Nat) : Int) - 1).toNat + 2) p_s x1 1))
  else
  Eu p_s j1 m1 (W (x1 + 1))))
  else
  j1
def Iu (p_s : List ByteArray) : Option (List ByteArray) :=
  if decide ((p_s.length : Int) < 2) then
  some p_s
  else
  Ex (some p_s) (fun j1 =>
  Eu p_s j1 (((p_s.length : Int) - 1).toNat + 2) 1)
def Me (p_x : Int) : Bool :=
  !decide (p_x = p_x)
def Kt (p_x : Int) (p_y : Int) : Int :=
  if (Me p_x) then
  if (Me p_y) then
  0
  else
  (-1)
  else
  if (Me p_y) then
  1
  else
  if decide (p_x < p_y) then
  (-1)
  else
  if decide (p_y < p_x) then
  1
  else
  0
def Ez (p_s2 : List Int) (j1 : Option Int) : List Int → Nat → Option Int
  | [],_=>j1
  | y1 :: ys1,i1=>if decide ((p_s2.length : Int) ≤ (i1 : Int)) then
  some 1
  else
  Chk (inB (i1 : Int) p_s2.length) (
  if !decide ((Kt y1 (nth p_s2 (i1 : Int))) = 0) then
  some (Kt y1 (nth p_s2 (i1 : Int)))
  else
  Ez p_s2 j1 ys1 (i1 + 1))
def Kk (p_s1 : List Int) (p_s2 : List Int) : Option Int :=
  Ex (if decide ((p_s1.length : Int) < (p_s2.length : Int)) then
  some (-1)
  else
  some 0) (fun j1 =>
  Ez p_s2 j1 p_s1 0)
def Jb (p_a : ByteArray) (p_b : ByteArray) (p_a2 : List (ByteArray × Cj)) : Option Int :=
  Option.bind (Kk [(Cr p_a2 p_b (Cj.mk 0 0 0)).a0_,(Cr p_a2 p_b (Cj.mk 0 0 0)).a1_,(Cr p_a2 p_b (Cj.mk 0 0 0)).a2_] [(Cr p_a2 p_a (Cj.mk 0 0 0)).a0_,(Cr p_a2 p_a (Cj.mk 0 0 0)).a1_,(Cr p_a2 p_a (Cj.mk 0 0 0)).a2_]) (fun r1 =>
  some r1)
def Cm (p_a : Int) (p_cmp_0 : List (ByteArray × Cj)) (j2 : (List ByteArray) → Option (List ByteArray)) : Nat → (List ByteArray) → Int → Option (List ByteArray)
  | 0,_,_=>none
  | m2 + 1,x3,x4=>Ex (fun (x5 : Bool) =>
  if x5 then
  Chk (inB (W (x4 - 1)) x3.length) (
  Chk (inB x4 x3.length) (
  Chk (inB x4 x3.length) (
  Chk (inB (W (x4 - 1)) (x3.set x4.toNat (nth x3 (W (x4 - 1)))).length) (
  Cm p_a p_cmp_0 j2 m2 ((x3.set x4.toNat (nth x3 (W (x4 - 1)))).set ((W (x4 - 1)).toNat) (nth x3 x4)) (W (x4 - 1))))))
  else
  j2 x3) (fun j3 =>
  if decide (p_a < x4) then
  Chk (inB x4 x3.length) (
  Chk (inB (W (x4 - 1)) x3.length) (
  Option.bind (Jb (nth x3 x4) (nth x3 (W (x4 - 1))) p_cmp_0) (fun r1 =>
  j3 (decide (r1 < 0)))))
  else
  j3 false)
def Cu (p_b : Int) (p_a : Int) (p_cmp_0 : List (ByteArray × Cj)) (j1 : (List ByteArray) → Option (List ByteArray)) : Nat → (List ByteArray) → Int → Option (List ByteArray)
  | 0,_,_=>none
  | m1 + 1,x1,x2=>if decide (x2 < p_b) then
  Ex (fun (x3 : List ByteArray) =>
  Cu p_b p_a p_cmp_0 j1 m1 x3 (W (x2 + 1))) (fun j2 =>
  Cm p_a p_cmp_0 j2 ((x2 - p_a).toNat + 2) x1 x2)
  else
  j1 x1
def Du (p_data : List ByteArray) (p_a : Int) (p_b : Int) (p_cmp_0 : List (ByteArray × Cj)) : Option (List ByteArray) :=
  Ex (fun (x1 : List ByteArray) =>
  some x1) (fun j1 =>
  Cu p_b p_a p_cmp_0 j1 ((p_b - (W (p_a + 1))).toNat + 2) p_data (W (p_a + 1)))
def Cy (p_n : Int) (p_cmp_0 : List (ByteArray × Cj)) (j1 : (List ByteArray) → Int → Option (List ByteArray)) : Nat → (List ByteArray) → Int → Int → Option (List ByteArray)
  | 0,_,_,_=>none
  | m1 + 1,x1,x2,x3=>if decide (x3 ≤ p_n) then
  Option.bind (Du x1 x2 x3 p_cmp_0) (fun r1 =>
  Cy p_n p_cmp_0 j1 m1 r1 x3 (W (x3 + 20)))
  else
  j1 x1 x2
def Dm (p_n : Int) (j3 : Int → Option (List ByteArray)) : Nat → Int → Int → Option (List ByteArray)
  | 0,_,_=>none
  | _ + 1,x5,x6=>if decide (x6 ≤ p_n) then
  none
  else
  j3 x5
def Cz (p_n : Int) (j2 : Option (List ByteArray)) : Nat → Int → Option (List ByteArray)
  | 0,_=>none
  | m2 + 1,x4=>if decide (x4 < p_n) then
  Ex (fun (x5 : Int) =>
  if decide ((W (x5 + x4)) < p_n) then
  none
  else
  Cz p_n j2 m2 (W (x4 * 2))) (fun j3 =>
  Dm p_n j3 ((p_n - (W (2 * x4))).toNat + 2) 0 (W (2 * x4)))
  else
  j2
def Fm (p_data : List ByteArray) (p_n : Int) (p_cmp_0 : List (ByteArray × Cj)) : Option (List ByteArray) :=
  Ex (fun (x1 : List ByteArray) (x2 : Int) =>
  Option.bind (Du x1 x2 p_n p_cmp_0) (fun r2 =>
  Ex (some r2) (fun j2 =>
  Cz p_n j2 ((p_n - 20).toNat + 2) 20))) (fun j1 =>
  Cy p_n p_cmp_0 j1 ((p_n - 20).toNat + 2) p_data 0 20)
def Ds (p_x : List ByteArray) (p_cmp_0 : List (ByteArray × Cj)) : Option (List ByteArray) :=
  Option.bind (Fm p_x (p_x.length : Int) p_cmp_0) (fun r1 =>
  some r1)
def Pl (xs : List ByteArray) (sep : ByteArray) : Option ByteArray :=
  Chk (decide (xs.length ≤ 140737488355328) && decide ((Lib.join (xs.map (·.data.toList)) sep.data.toList).length ≤ 140737488355328)) (some (⟨(Lib.join (xs.map (·.data.toList)) sep.data.toList).toArray⟩))
def Hp (j1 : (List ByteArray) → Option ByteArray) : List Int → Nat → (List ByteArray) → Option ByteArray
  | [],_,x1=>j1 x1
  | y1 :: ys1,i1,x1=>Option.bind (Kw y1) (fun r1 =>
  Chk (Pj x1.length) (
  Hp j1 ys1 (i1 + 1) (x1 ++ [r1])))
def Lm (p_l : List Int) : Option ByteArray :=
  Ex (fun (x1 : List ByteArray) =>
  Option.bind (Pl x1 Iz) (fun r2 =>
  some r2)) (fun j1 =>
  Hp j1 p_l 0 ([] : List ByteArray))
def Gk (j1 : (List ByteArray) → (List (ByteArray × Cj)) → Option (List Dy)) : List An → Nat → (List ByteArray) → (List (ByteArray × Cj)) → Option (List Dy)
  | [],_,x1,x2=>j1 x1 x2
  | y1 :: ys1,i1,x1,x2=>Ex (fun (x3 : List ByteArray) (x4 : List (ByteArray × Cj)) =>
  Gk j1 ys1 (i1 + 1) x3 x4) (fun j2 =>
  Ex (fun (x5 : List ByteArray) (x6 : List (ByteArray × Cj)) =>
  j2 x5 x6) (fun j3 =>
  if ((!decide (y1.Club = Co)) && (Ev y1.Rank 1 3)) then
  Chk (inB (W (y1.Rank - 1)) 3) (
  Chk (inB (W (y1.Rank - 1)) 3) (
  Chk (Pj x1.length) (
  j3 (x1 ++ [y1.Club]) (Mo x2 y1.Club (Cj.mk (if (W (y1.Rank - 1)) = 0 then W ((nth [(Cr x2 y1.Club (Cj.mk 0 0 0)).a0_,(Cr x2 y1.Club (Cj.mk 0 0 0)).a1_,(Cr x2 y1.Club (Cj.mk 0 0 0)).a2_] (W (y1.Rank - 1))) + 1) else (Cr x2 y1.Club (Cj.mk 0 0 0)).a0_) (if (W (y1.Rank - 1)) = 1 then W ((nth [(Cr x2 y1.Club (Cj.mk 0 0 0)).a0_,(Cr x2 y1.Club (Cj.mk 0 0 0)).a1_,(Cr x2 y1.Club (Cj.mk 0 0 0)).a2_] (W (y1.Rank - 1))) + 1) else (Cr x2 y1.Club (Cj.mk 0 0 0)).a1_) (if (W (y1.Rank - 1)) = 2 then W ((nth [(Cr x2 y1.Club (Cj.mk 0 0 0)).a0_,(Cr x2 y1.Club (Cj.mk 0 0 0)).a1_,(Cr x2 y1.Club (Cj.mk 0 0 0)).a2_] (W (y1.Rank - 1))) + 1) else (Cr x2 y1.Club (Cj.mk 0 0 0)).a2_))))))
  else
  j3 x1 x2))
def Fj (x2 : List (ByteArray × Cj)) (j4 : (List Dy) → Option (List Dy)) : List ByteArray → Nat → (List Dy) → Option (List Dy)
  | [],_,x7=>j4 x7
  | y2 :: ys2,i2,x7=>Option.bind (Lm [(Cr x2 y2 (Cj.mk 0 0 0)).a0_,(Cr x2 y2 (Cj.mk 0 0 0)).a1_,(Cr x2 y2 (Cj.mk 0 0 0)).a2_]) (fun r4 =>
  Chk (Pj x7.length) (
  Fj x2 j4 ys2 (i2 + 1) (x7 ++ [(Dy.mk y2 r4)])))
def Ju (p_l : List An) : Option (List Dy) :=
  Ex (fun (x1 : List ByteArray) (x2 : List (ByteArray × Cj)) =>
  Option.bind (Jl x1) (fun r1 =>
  Option.bind (Iu r1) (fun r2 =>
  Option.bind (Ds r2 x2) (fun r3 =>
  Ex (fun (x7 : List Dy) =>
  some x7) (fun j4 =>
  Fj x2 j4 r3 0 ([] : List Dy)))))) (fun j1 =>
  Gk j1 p_l 0 ([] : List ByteArray) ([] : List (ByteArray × Cj)))
def Gx (p_s2 : List Int) (j1 : Option Bool) : List Int → Nat → Option Bool
  | [],_=>j1
  | y1 :: ys1,i1=>Chk (inB (i1 : Int) p_s2.length) (
  if !decide (y1 = (nth p_s2 (i1 : Int))) then
  some false
  else
  Gx p_s2 j1 ys1 (i1 + 1))
def Ke (p_s1 : List Int) (p_s2 : List Int) : Option Bool :=
  if !decide ((p_s1.length : Int) = (p_s2.length : Int)) then
  some false
  else
  Ex (some true) (fun j1 =>
  Gx p_s2 j1 p_s1 0)
def Gl (p_s2 : List Dy) (j1 : Option Bool) : List Dy → Nat → Option Bool
  | [],_=>j1
  | y1 :: ys1,i1=>Chk (inB (i1 : Int) p_s2.length) (
  if !decide (y1 = (nth p_s2 (i1 : Int))) then
  some false
  else
  Gl p_s2 j1 ys1 (i1 + 1))
def Jv (p_s1 : List Dy) (p_s2 : List Dy) : Option Bool :=
  if !decide ((p_s1.length : Int) = (p_s2.length : Int)) then
  some false
  else
  Ex (some true) (fun j1 =>
  Gl p_s2 j1 p_s1 0)
def Ox (p_n : Int) : Bool :=
  (Fd p_n 1 360000)
def Ij (p_l : List Le) (j1 : Option Int) : List Le → Nat → Option Int
  | [],_=>j1
  | y1 :: ys1,i1=>Option.bind (Kv y1.Race) (fun r1 =>
  if !r1 then
  some 5
  else
  Ex (fun (c1 : Bool) =>
  if c1 then
  some 7
  else
  if !(Ox y1.Time) then
  some 1
  else
  Ij p_l j1 ys1 (i1 + 1)) (fun j2 =>
  if (decide (0 < (i1 : Int))) then Chk (inB (W ((i1 : Int) - 1)) p_l.length) (
  j2 ((decide (0 < (i1 : Int))) && (DK y1.Race ((nth p_l (W ((i1 : Int) - 1))).Race) || decide (y1.Race = ((nth p_l (W ((i1 : Int) - 1))).Race))))) else j2 ((decide (0 < (i1 : Int))) && true)))
def Ov (p_l : List Le) : Option Int :=
  if decide (500 < (p_l.length : Int)) then
  some 2
  else
  Ex (some 0) (fun j1 =>
  Ij p_l j1 p_l 0)
def Jc (p_race : ByteArray) (j1 : Int) : List Le → Nat → Int
  | [],_=>j1
  | y1 :: ys1,i1=>if decide (y1.Race = p_race) then
  y1.Time
  else
  Jc p_race j1 ys1 (i1 + 1)
def Mf (p_l : List Le) (p_race : ByteArray) : Int :=
  Ex (0) (fun j1 =>
  Jc p_race j1 p_l 0)
def Lv (p_x : Int) (p_y : Int) : (Int × Int) :=
  (IntKind.wrap .u64 ((IntKind.wrap .u64 ((IntKind.wrap .u64 ((Dt .u64 p_x 32) * (Dt .u64 p_y 32))) + (Dt .u64 (IntKind.wrap .u64 ((IntKind.wrap .u64 ((Dt .u64 p_x 32) * (Iy .u64 p_y 4294967295))) + (Dt .u64 (IntKind.wrap .u64 ((Iy .u64 p_x 4294967295) * (Iy .u64 p_y 4294967295))) 32))) 32))) + (Dt .u64 (IntKind.wrap .u64 ((Iy .u64 (IntKind.wrap .u64 ((IntKind.wrap .u64 ((Dt .u64 p_x 32) * (Iy .u64 p_y 4294967295))) + (Dt .u64 (IntKind.wrap .u64 ((Iy .u64 p_x 4294967295) * (Iy .u64 p_y 4294967295))) 32))) 4294967295) + (IntKind.wrap .u64 ((Iy .u64 p_x 4294967295) * (Dt .u64 p_y 32))))) 32)),IntKind.wrap .u64 (p_x * p_y))
def Nh (p_x : Int) : Option Int :=
  Option.bind (Rg p_x) (fun r1 =>
  some (W (64 - r1)))
def Kc (p_lo : Int) (r1 : Int) (p_y : Int) (j1 : Int → Option (Int × Int)) : Nat → Int → Int → Option (Int × Int)
  | 0,_,_=>none
  | m1 + 1,x1,x2=>if ((decide (4294967296 ≤ x1)) || (decide ((IntKind.wrap .u64 ((IntKind.wrap .u64 (4294967296 * x2)) + (Dt .u64 (Dc .u64 p_lo (IntKind.wrap .u64 r1)) 32))) < (IntKind.wrap .u64 (x1 * (Iy .u64 (Dc .u64 p_y (IntKind.wrap .u64 r1)) 4294967295)))))) then
  if decide (4294967296 ≤ (IntKind.wrap .u64 (x2 + (Dt .u64 (Dc .u64 p_y (IntKind.wrap .u64 r1)) 32)))) then
  j1 (IntKind.wrap .u64 (x1 - 1))
  else
  Kc p_lo r1 p_y j1 m1 (IntKind.wrap .u64 (x1 - 1)) (IntKind.wrap .u64 (x2 + (Dt .u64 (Dc .u64 p_y (IntKind.wrap .u64 r1)) 32)))
  else
  j1 x1
def Kd (p_lo : Int) (r1 : Int) (p_y : Int) (j2 : Int → Option (Int × Int)) : Nat → Int → Int → Option (Int × Int)
  | 0,_,_=>none
  | m2 + 1,x3,x4=>if ((decide (4294967296 ≤ x4)) || (decide ((IntKind.wrap .u64 ((IntKind.wrap .u64 (4294967296 * x3)) + (Iy .u64 (Dc .u64 p_lo (IntKind.wrap .u64 r1)) 4294967295))) < (IntKind.wrap .u64 (x4 * (Iy .u64 (Dc .u64 p_y (IntKind.wrap .u64 r1)) 4294967295)))))) then
  if decide (4294967296 ≤ (IntKind.wrap .u64 (x3 + (Dt .u64 (Dc .u64 p_y (IntKind.wrap .u64 r1)) 32)))) then
  j2 (IntKind.wrap .u64 (x4 - 1))
  else
  Kd p_lo r1 p_y j2 m2 (IntKind.wrap .u64 (x3 + (Dt .u64 (Dc .u64 p_y (IntKind.wrap .u64 r1)) 32))) (IntKind.wrap .u64 (x4 - 1))
  else
  j2 x4
def Tl (p_hi : Int) (p_lo : Int) (p_y : Int) : Option (Int × Int) :=
  if decide (p_y = 0) then
  none
  else
  if decide (p_y ≤ p_hi) then
  none
  else
  if decide (p_hi = 0) then
  Chk (!decide (p_y = 0)) (
  Chk (!decide (p_y = 0)) (
  some (IntKind.wrap .u64 (Int.tdiv p_lo p_y),Int.tmod p_lo p_y)))
  else
  Option.bind (Nh p_y) (fun r1 =>
  Chk (decide (0 ≤ (IntKind.wrap .u64 r1))) (
  Chk (decide (0 ≤ (IntKind.wrap .u64 r1))) (
  Chk (decide (0 ≤ (IntKind.wrap .u64 (64 - (IntKind.wrap .u64 r1))))) (
  Chk (decide (0 ≤ (IntKind.wrap .u64 r1))) (
  Chk (!decide ((Dt .u64 (Dc .u64 p_y (IntKind.wrap .u64 r1)) 32) = 0)) (
  Ex (fun (x1 : Int) =>
  Chk (!decide ((Dt .u64 (Dc .u64 p_y (IntKind.wrap .u64 r1)) 32) = 0)) (
  Ex (fun (x4 : Int) =>
  Chk (decide (0 ≤ (IntKind.wrap .u64 r1))) (
  some (IntKind.wrap .u64 ((IntKind.wrap .u64 (x1 * 4294967296)) + x4),Dt .u64 (IntKind.wrap .u64 ((IntKind.wrap .u64 ((IntKind.wrap .u64 ((IntKind.wrap .u64 ((IntKind.wrap .u64 ((IntKind.wrap .u64 ((Lw .u64 (Dc .u64 p_hi (IntKind.wrap .u64 r1)) (Dt .u64 p_lo (IntKind.wrap .u64 (64 - (IntKind.wrap .u64 r1))))) * 4294967296)) + (Dt .u64 (Dc .u64 p_lo (IntKind.wrap .u64 r1)) 32))) - (IntKind.wrap .u64 (x1 * (Dc .u64 p_y (IntKind.wrap .u64 r1)))))) * 4294967296)) + (Iy .u64 (Dc .u64 p_lo (IntKind.wrap .u64 r1)) 4294967295))) - (IntKind.wrap .u64 (x4 * (Dc .u64 p_y (IntKind.wrap .u64 r1)))))) (IntKind.wrap .u64 r1)))) (fun j2 =>
  Kd p_lo r1 p_y j2 (((IntKind.wrap .u64 (Int.tdiv (IntKind.wrap .u64 ((IntKind.wrap .u64 ((IntKind.wrap .u64 ((Lw .u64 (Dc .u64 p_hi (IntKind.wrap .u64 r1)) (Dt .u64 p_lo (IntKind.wrap .u64 (64 - (IntKind.wrap .u64 r1))))) * 4294967296)) + (Dt .u64 (Dc .u64 p_lo (IntKind.wrap .u64 r1)) 32))) - (IntKind.wrap .u64 (x1 * (Dc .u64 p_y (IntKind.wrap .u64 r1)))))) (Dt .u64 (Dc .u64 p_y (IntKind.wrap .u64 r1)) 32))) - 4294967296).toNat + 2) (IntKind.wrap .u64 ((IntKind.wrap .u64 ((IntKind.wrap .u64 ((IntKind.wrap .u64 ((Lw .u64 (Dc .u64 p_hi (IntKind.wrap .u64 r1)) (Dt .u64 p_lo (IntKind.wrap .u64 (64 - (IntKind.wrap .u64 r1))))) * 4294967296)) + (Dt .u64 (Dc .u64 p_lo (IntKind.wrap .u64 r1)) 32))) - (IntKind.wrap .u64 (x1 * (Dc .u64 p_y (IntKind.wrap .u64 r1)))))) - (IntKind.wrap .u64 ((IntKind.wrap .u64 (Int.tdiv (IntKind.wrap .u64 ((IntKind.wrap .u64 ((IntKind.wrap .u64 ((Lw .u64 (Dc .u64 p_hi (IntKind.wrap .u64 r1)) (Dt .u64 p_lo (IntKind.wrap .u64 (64 - (IntKind.wrap .u64 r1))))) * 4294967296)) + (Dt .u64 (Dc .u64 p_lo (IntKind.wrap .u64 r1)) 32))) - (IntKind.wrap .u64 (x1 * (Dc .u64 p_y (IntKind.wrap .u64 r1)))))) (Dt .u64 (Dc .u64 p_y (IntKind.wrap .u64 r1)) 32))) * (Dt .u64 (Dc .u64 p_y (IntKind.wrap .u64 r1)) 32))))) (IntKind.wrap .u64 (Int.tdiv (IntKind.wrap .u64 ((IntKind.wrap .u64 ((IntKind.wrap .u64 ((Lw .u64 (Dc .u64 p_hi (IntKind.wrap .u64 r1)) (Dt .u64 p_lo (IntKind.wrap .u64 (64 - (IntKind.wrap .u64 r1))))) * 4294967296)) + (Dt .u64 (Dc .u64 p_lo (IntKind.wrap .u64 r1)) 32))) - (IntKind.wrap .u64 (x1 * (Dc .u64 p_y (IntKind.wrap .u64 r1)))))) (Dt .u64 (Dc .u64 p_y (IntKind.wrap .u64 r1)) 32)))))) (fun j1 =>
  Kc p_lo r1 p_y j1 (((IntKind.wrap .u64 (Int.tdiv (Lw .u64 (Dc .u64 p_hi (IntKind.wrap .u64 r1)) (Dt .u64 p_lo (IntKind.wrap .u64 (64 - (IntKind.wrap .u64 r1))))) (Dt .u64 (Dc .u64 p_y (IntKind.wrap .u64 r1)) 32))) - 4294967296).toNat + 2) (IntKind.wrap .u64 (Int.tdiv (Lw .u64 (Dc .u64 p_hi (IntKind.wrap .u64 r1)) (Dt .u64 p_lo (IntKind.wrap .u64 (64 - (IntKind.wrap .u64 r1))))) (Dt .u64 (Dc .u64 p_y (IntKind.wrap .u64 r1)) 32))) (IntKind.wrap .u64 ((Lw .u64 (Dc .u64 p_hi (IntKind.wrap .u64 r1)) (Dt .u64 p_lo (IntKind.wrap .u64 (64 - (IntKind.wrap .u64 r1))))) - (IntKind.wrap .u64 ((IntKind.wrap .u64 (Int.tdiv (Lw .u64 (Dc .u64 p_hi (IntKind.wrap .u64 r1)) (Dt .u64 p_lo (IntKind.wrap .u64 (64 - (IntKind.wrap .u64 r1))))) (Dt .u64 (Dc .u64 p_y (IntKind.wrap .u64 r1)) 32))) * (Dt .u64 (Dc .u64 p_y (IntKind.wrap .u64 r1)) 32))))))))))))
def Qe (p_base : Int) (p_time : Int) : Option Int :=
  if decide ((IntKind.wrap .u64 ((IntKind.wrap .u64 ((IntKind.wrap .u64 p_time) * (IntKind.wrap .u64 p_time))) * (IntKind.wrap .u64 p_time))) ≤ ((Lv (IntKind.wrap .u64 ((IntKind.wrap .u64 ((IntKind.wrap .u64 p_base) * (IntKind.wrap .u64 p_base))) * (IntKind.wrap .u64 p_base))) 1000).1)) then
  some 1000000000
  else
  Option.bind (Tl ((Lv (IntKind.wrap .u64 ((IntKind.wrap .u64 ((IntKind.wrap .u64 p_base) * (IntKind.wrap .u64 p_base))) * (IntKind.wrap .u64 p_base))) 1000).1) ((Lv (IntKind.wrap .u64 ((IntKind.wrap .u64 ((IntKind.wrap .u64 p_base) * (IntKind.wrap .u64 p_base))) * (IntKind.wrap .u64 p_base))) 1000).2) (IntKind.wrap .u64 ((IntKind.wrap .u64 ((IntKind.wrap .u64 p_time) * (IntKind.wrap .u64 p_time))) * (IntKind.wrap .u64 p_time)))) (fun r1 =>
  some (W (imin r1.1 1000000000)))
def Qf (p_l : List Le) (p_race : ByteArray) (p_time : Int) : Option (Int × Int) :=
  Option.bind (Ov p_l) (fun r1 =>
  if !decide (r1 = 0) then
  some (0,r1)
  else
  if decide ((Mf p_l p_race) = 0) then
  some (0,8)
  else
  if !(Ox p_time) then
  some (0,1)
  else
  Option.bind (Qe (Mf p_l p_race) p_time) (fun r2 =>
  some (r2,0)))
def Ng : Option Bool :=
  Option.bind (Qf [(Le.mk k_r 3000)] k_r 6000) (fun r1 =>
  some ((decide (r1.2 = 0)) && (decide (r1.1 = 125))))
def Li (p_l : List Int) : Option Bool :=
  Option.bind (Nj p_l 0) (fun r1 =>
  Option.bind (Nl p_l r1.2) (fun r2 =>
  Option.bind (Og r1.1) (fun r3 =>
  Option.bind (La r2.1) (fun r4 =>
  Ex (fun (x1 : List Int) =>
  Option.bind (Ja r2.1) (fun r6 =>
  Ex (fun (x2 : List Dy) =>
  Ex (fun (c1 : Bool) =>
  Ex (fun (c2 : Bool) =>
  Ex (fun (c3 : Bool) =>
  Ex (fun (c4 : Bool) =>
  some c4) (fun j6 =>
  if c3 then Option.bind (Ng) (fun r11 =>
  j6 (c3 && r11)) else j6 (c3 && true))) (fun j5 =>
  if c2 then Option.bind (Jv r4.1 x2) (fun r10 =>
  j5 (c2 && r10)) else j5 (c2 && true))) (fun j4 =>
  if c1 then Option.bind (Ja r2.1) (fun r9 =>
  j4 (c1 && (decide (r4.2 = r9)))) else j4 (c1 && true))) (fun j3 =>
  if (decide (r3.2 = (Gg r1.1))) then Option.bind (Ke r3.1 x1) (fun r8 =>
  j3 ((decide (r3.2 = (Gg r1.1))) && r8)) else j3 ((decide (r3.2 = (Gg r1.1))) && true))) (fun j2 =>
  if decide (r6 = 0) then
  Option.bind (Ju r2.1) (fun r7 =>
  j2 r7)
  else
  j2 ([] : List Dy)))) (fun j1 =>
  if decide ((Gg r1.1) = 0) then
  Option.bind (Ll r1.1) (fun r5 =>
  j1 r5)
  else
  j1 ([] : List Int))))))
theorem twin_eqs : True:=by
  have h:=@Ht.eq_def; clear h; have h:=@Ht.eq_1; clear h; have h:=@Ht.eq_2; clear h
  have h:=@Cl.eq_def; clear h; have h:=@Cl.eq_1; clear h; have h:=@Cl.eq_2; clear h
  have h:=@Ct.eq_def; clear h; have h:=@Ct.eq_1; clear h; have h:=@Ct.eq_2; clear h
  have h:=@Dd.eq_def; clear h; have h:=@Dd.eq_1; clear h; have h:=@Dd.eq_2; clear h
  have h:=@Ga.eq_def; clear h; have h:=@Ga.eq_1; clear h; have h:=@Ga.eq_2; clear h
  have h:=@Fp.eq_def; clear h; have h:=@Fp.eq_1; clear h; have h:=@Fp.eq_2; clear h
  have h:=@Ey.eq_def; clear h; have h:=@Ey.eq_1; clear h; have h:=@Ey.eq_2; clear h
  have h:=@Et.eq_def; clear h; have h:=@Et.eq_1; clear h; have h:=@Et.eq_2; clear h
  have h:=@Ej.eq_def; clear h; have h:=@Ej.eq_1; clear h; have h:=@Ej.eq_2; clear h
  have h:=@Hu.eq_def; clear h; have h:=@Hu.eq_1; clear h; have h:=@Hu.eq_2; clear h
  have h:=@Ig.eq_def; clear h; have h:=@Ig.eq_1; clear h; have h:=@Ig.eq_2; clear h
  have h:=@Io.eq_def; clear h; have h:=@Io.eq_1; clear h; have h:=@Io.eq_2; clear h
  have h:=@Ih.eq_def; clear h; have h:=@Ih.eq_1; clear h; have h:=@Ih.eq_2; clear h
  have h:=@Ii.eq_def; clear h; have h:=@Ii.eq_1; clear h; have h:=@Ii.eq_2; clear h
  have h:=@Ip.eq_def; clear h; have h:=@Ip.eq_1; clear h; have h:=@Ip.eq_2; clear h
  have h:=@Hq.eq_def; clear h; have h:=@Hq.eq_1; clear h; have h:=@Hq.eq_2; clear h
  have h:=@Da.eq_def; clear h; have h:=@Da.eq_1; clear h; have h:=@Da.eq_2; clear h
  have h:=@Gb.eq_def; clear h; have h:=@Gb.eq_1; clear h; have h:=@Gb.eq_2; clear h
  have h:=@Gq.eq_def; clear h; have h:=@Gq.eq_1; clear h; have h:=@Gq.eq_2; clear h
  have h:=@Gt.eq_def; clear h; have h:=@Gt.eq_1; clear h; have h:=@Gt.eq_2; clear h
  have h:=@Gc.eq_def; clear h; have h:=@Gc.eq_1; clear h; have h:=@Gc.eq_2; clear h
  have h:=@Er.eq_def; clear h; have h:=@Er.eq_1; clear h; have h:=@Er.eq_2; clear h
  have h:=@Gd.eq_def; clear h; have h:=@Gd.eq_1; clear h; have h:=@Gd.eq_2; clear h
  have h:=@Dh.eq_def; clear h; have h:=@Dh.eq_1; clear h; have h:=@Dh.eq_2; clear h
  have h:=@Dq.eq_def; clear h; have h:=@Dq.eq_1; clear h; have h:=@Dq.eq_2; clear h
  have h:=@Cs.eq_def; clear h; have h:=@Cs.eq_1; clear h; have h:=@Cs.eq_2; clear h
  have h:=@Cx.eq_def; clear h; have h:=@Cx.eq_1; clear h; have h:=@Cx.eq_2; clear h
  have h:=@Dn.eq_def; clear h; have h:=@Dn.eq_1; clear h; have h:=@Dn.eq_2; clear h
  have h:=@Hv.eq_def; clear h; have h:=@Hv.eq_1; clear h; have h:=@Hv.eq_2; clear h
  have h:=@Hc.eq_def; clear h; have h:=@Hc.eq_1; clear h; have h:=@Hc.eq_2; clear h
  have h:=@Ff.eq_def; clear h; have h:=@Ff.eq_1; clear h; have h:=@Ff.eq_2; clear h
  have h:=@Gv.eq_def; clear h; have h:=@Gv.eq_1; clear h; have h:=@Gv.eq_2; clear h
  have h:=@Gw.eq_def; clear h; have h:=@Gw.eq_1; clear h; have h:=@Gw.eq_2; clear h
  have h:=@Hw.eq_def; clear h; have h:=@Hw.eq_1; clear h; have h:=@Hw.eq_2; clear h
  have h:=@Db.eq_def; clear h; have h:=@Db.eq_1; clear h; have h:=@Db.eq_2; clear h
  have h:=@Eo.eq_def; clear h; have h:=@Eo.eq_1; clear h; have h:=@Eo.eq_2; clear h
  have h:=@Ep.eq_def; clear h; have h:=@Ep.eq_1; clear h; have h:=@Ep.eq_2; clear h
  have h:=@Fl.eq_def; clear h; have h:=@Fl.eq_1; clear h; have h:=@Fl.eq_2; clear h
  have h:=@Fw.eq_def; clear h; have h:=@Fw.eq_1; clear h; have h:=@Fw.eq_2; clear h
  have h:=@Eu.eq_def; clear h; have h:=@Eu.eq_1; clear h; have h:=@Eu.eq_2; clear h
  have h:=@Ez.eq_def; clear h; have h:=@Ez.eq_1; clear h; have h:=@Ez.eq_2; clear h
  have h:=@Cm.eq_def; clear h; have h:=@Cm.eq_1; clear h; have h:=@Cm.eq_2; clear h
  have h:=@Cu.eq_def; clear h; have h:=@Cu.eq_1; clear h; have h:=@Cu.eq_2; clear h
  have h:=@Cy.eq_def; clear h; have h:=@Cy.eq_1; clear h; have h:=@Cy.eq_2; clear h
  have h:=@Dm.eq_def; clear h; have h:=@Dm.eq_1; clear h; have h:=@Dm.eq_2; clear h
  have h:=@Cz.eq_def; clear h; have h:=@Cz.eq_1; clear h; have h:=@Cz.eq_2; clear h
  have h:=@Hp.eq_def; clear h; have h:=@Hp.eq_1; clear h; have h:=@Hp.eq_2; clear h
  have h:=@Gk.eq_def; clear h; have h:=@Gk.eq_1; clear h; have h:=@Gk.eq_2; clear h
  have h:=@Fj.eq_def; clear h; have h:=@Fj.eq_1; clear h; have h:=@Fj.eq_2; clear h
  have h:=@Gx.eq_def; clear h; have h:=@Gx.eq_1; clear h; have h:=@Gx.eq_2; clear h
  have h:=@Gl.eq_def; clear h; have h:=@Gl.eq_1; clear h; have h:=@Gl.eq_2; clear h
  have h:=@Ij.eq_def; clear h; have h:=@Ij.eq_1; clear h; have h:=@Ij.eq_2; clear h
  have h:=@Jc.eq_def; clear h; have h:=@Jc.eq_1; clear h; have h:=@Jc.eq_2; clear h
  have h:=@Kc.eq_def; clear h; have h:=@Kc.eq_1; clear h; have h:=@Kc.eq_2; clear h
  have h:=@Kd.eq_def; clear h; have h:=@Kd.eq_1; clear h; have h:=@Kd.eq_2; clear h
  trivial
end Go.Proofs.YtocmlionnalaaaaGreatDoor
