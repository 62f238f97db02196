/- The Go functions as plain Lean functions,by program. -/
import Derived.Test.YtlndicofaomdaaaGreatDoorBase
namespace Go.Proofs.YtlndicofaomdaaaGreatDoor
open Go
structure JQ where
  L : List Int
  at_ : Int
  deriving DecidableEq,Inhabited
structure An where
  Key : ByteArray
  Heats : Int
  Long : Int
  Gap : Int
  Break : Int
  deriving DecidableEq,Inhabited
structure Ex where
  Who : ByteArray
  Item : ByteArray
  Heat : Int
  deriving DecidableEq,Inhabited
structure Jj where
  From : Int
  To : Int
  deriving DecidableEq,Inhabited
structure Fb where
  Item : ByteArray
  Heat : Int
  Time : Jj
  deriving DecidableEq,Inhabited
structure Ew where
  first_ : Int
  last_ : Int
  deriving DecidableEq,Inhabited
structure Gn where
  Who : ByteArray
  From : Fb
  To : Fb
  Long : Int
  deriving DecidableEq,Inhabited
def Ga : ByteArray:=⟨#[]⟩
def Xv : ByteArray:=⟨#[105,99]⟩
def Sk : ByteArray:=⟨#[105,97]⟩
def Xw : ByteArray:=⟨#[105,100]⟩
def Xx : ByteArray:=⟨#[105,98]⟩
def Xy : ByteArray:=⟨#[105,101]⟩
def Ng : ByteArray:=⟨#[97,110,110]⟩
def Qv : ByteArray:=⟨#[98,101,97]⟩
def Qw : ByteArray:=⟨#[99,105,100]⟩
def Nl : ByteArray:=⟨#[0,1,2,2,3,3,3,3,4,4,4,4,4,4,4,4,5,5,5,5,5,5,5,5,5,5,5,5,5,5,5,5,6,6,6,6,6,6,6,6,6,6,6,6,6,6,6,6,6,6,6,6,6,6,6,6,6,6,6,6,6,6,6,6,7,7,7,7,7,7,7,7,7,7,7,7,7,7,7,7,7,7,7,7,7,7,7,7,7,7,7,7,7,7,7,7,7,7,7,7,7,7,7,7,7,7,7,7,7,7,7,7,7,7,7,7,7,7,7,7,7,7,7,7,7,7,7,7,8,8,8,8,8,8,8,8,8,8,8,8,8,8,8,8,8,8,8,8,8,8,8,8,8,8,8,8,8,8,8,8,8,8,8,8,8,8,8,8,8,8,8,8,8,8,8,8,8,8,8,8,8,8,8,8,8,8,8,8,8,8,8,8,8,8,8,8,8,8,8,8,8,8,8,8,8,8,8,8,8,8,8,8,8,8,8,8,8,8,8,8,8,8,8,8,8,8,8,8,8,8,8,8,8,8,8,8,8,8,8,8,8,8,8,8,8,8,8,8,8,8,8,8,8,8,8,8]⟩
def Ua : ByteArray:=⟨#[122,122]⟩
def Hm : ByteArray:=⟨#[97,98,99,100,101,102,103,104,105,106,107,108,109,110,111,112,113,114,115,116,117,118,119,120,121,122,48,49,50,51,52,53,54,55,56,57,45,95]⟩
def Jw : ByteArray:=⟨#[97,98,99,100,101,102,103,104,105,106,107,108,109,110,111,112,113,114,115,116,117,118,119,120,121,122]⟩
def k_a : ByteArray:=⟨#[97]⟩
def Nu (p_x : Int) (p_n : Int) : Option Int :=
  if decide (p_n < 1) then
  some 0
  else
  Chk (!decide (p_n = 0)) (
  Ib (fun (x1 : Int) =>
  some x1) (fun j1 =>
  if decide ((Int.tmod p_x p_n) < 0) then
  j1 (W ((Int.tmod p_x p_n) + p_n))
  else
  j1 (Int.tmod p_x p_n)))
def Mc (p_s_L : List Int) (p_s_at : Int) (p_n : Int) : Option (Int × Int) :=
  if decide ((p_s_L.length : Int) = 0) then
  Option.bind (Nu (W ((W (p_s_at + 1)) * 7919)) p_n) (fun r1 =>
  some (r1,W (p_s_at + 1)))
  else
  Chk (!decide ((p_s_L.length : Int) = 0)) (
  Chk (!decide ((p_s_L.length : Int) = 0)) (
  Chk (inB (Int.tmod (W ((W (p_s_at + 1)) - 1)) (p_s_L.length : Int)) p_s_L.length) (
  Option.bind (Nu (nth p_s_L (Int.tmod (W ((W (p_s_at + 1)) - 1)) (p_s_L.length : Int))) 1073741824) (fun r2 =>
  Option.bind (Nu (W (r2 + (W ((W (Int.tdiv (W ((W (p_s_at + 1)) - 1)) (p_s_L.length : Int))) * (W (7919 + (Int.tmod (W ((W (p_s_at + 1)) - 1)) (p_s_L.length : Int)))))))) p_n) (fun r3 =>
  some (r3,W (p_s_at + 1)))))))
def Mq (p_s_L : List Int) (p_s_at : Int) (p_n : Int) : Option (Bool × Int) :=
  Option.bind (Mc p_s_L p_s_at p_n) (fun r1 =>
  some (decide (r1.1 = 0),r1.2))
def Mr (p_s_L : List Int) (p_s_at : Int) (p_l : List Int) : Option (Int × Int) :=
  Option.bind (Mc p_s_L p_s_at (p_l.length : Int)) (fun r1 =>
  Chk (inB r1.1 p_l.length) (
  some ((nth p_l r1.1),r1.2)))
def Jm (p_s_L : List Int) (j1 : (List An) → Int → Option ((List An) × Int)) : List ByteArray → Nat → (List An) → Int → Option ((List An) × Int)
  | [],_,x1,x2=>j1 x1 x2
  | y1 :: ys1,i1,x1,x2=>Ib (fun (x3 : List An) (x4 : Int) =>
  Jm p_s_L j1 ys1 (i1 + 1) x3 x4) (fun j2 =>
  Option.bind (Mq p_s_L x2 6) (fun r1 =>
  Ib (fun (x5 : List An) (x6 : Int) =>
  j2 x5 x6) (fun j3 =>
  if !r1.1 then
  Option.bind (Mr p_s_L r1.2 [1,1,2,3]) (fun r2 =>
  Option.bind (Mr p_s_L r2.2 [50,100]) (fun r3 =>
  Option.bind (Mr p_s_L r3.2 [0,10,60]) (fun r4 =>
  Option.bind (Mr p_s_L r4.2 [0,20,50,200]) (fun r5 =>
  Chk (Pa x1.length) (
  j3 (x1 ++ [(An.mk y1 r2.1 r3.1 r4.1 r5.1)]) r5.2)))))
  else
  j3 x1 r1.2)))
def Og (p_s_L : List Int) (p_s_at : Int) (p_most : Int) : Option ((List An) × Int) :=
  Chk (Ql 0 p_most ([Xv,Sk,Xw,Xx,Xy] : List ByteArray).length) (
  Ib (fun (x1 : List An) (x2 : Int) =>
  some (x1,x2)) (fun j1 =>
  Jm p_s_L j1 (cut ([Xv,Sk,Xw,Xx,Xy] : List ByteArray) 0 p_most) 0 ([] : List An) p_s_at))
def Pn (p_s_L : List Int) (p_s_at : Int) (p_l : List ByteArray) : Option (ByteArray × Int) :=
  Option.bind (Mc p_s_L p_s_at (p_l.length : Int)) (fun r1 =>
  Chk (inB r1.1 p_l.length) (
  some ((nth p_l r1.1),r1.2)))
def Oh (p_s_L : List Int) (p_s_at : Int) (p_low : Int) (p_high : Int) : Option (Int × Int) :=
  if decide (p_high < p_low) then
  some (p_low,p_s_at)
  else
  Option.bind (Mc p_s_L p_s_at (W ((W (p_high - p_low)) + 1))) (fun r1 =>
  some (W (p_low + r1.1),r1.2))
def Po (p_s_L : List Int) (p_s_at : Int) (p_low : Int) (p_high : Int) : Option (Int × Int) :=
  Option.bind (Mq p_s_L p_s_at 12) (fun r1 =>
  if r1.1 then
  Option.bind (Mr p_s_L r1.2 [W (p_low - 1),W (p_high + 1),p_low,p_high,(-1099511627776),1099511627776]) (fun r2 =>
  some (r2.1,r2.2))
  else
  Option.bind (Oh p_s_L r1.2 p_low p_high) (fun r3 =>
  some (r3.1,r3.2)))
def Rr (p_s_L : List Int) (p_s_at : Int) (p_most : Int) : Option ((List An) × Int) :=
  Option.bind (Og p_s_L p_s_at p_most) (fun r1 =>
  Ib (fun (x1 : Int) (x2 : Bool) =>
  Ib (fun (x3 : List An) (x4 : Int) =>
  some (x3,x4)) (fun j2 =>
  if x2 then
  Option.bind (Mc p_s_L x1 (r1.1.length : Int)) (fun r3 =>
  Chk (inB r3.1 r1.1.length) (
  Option.bind (Pn p_s_L r3.2 [(nth r1.1 r3.1).Key,Ga,Sk]) (fun r4 =>
  Option.bind (Po p_s_L r4.2 1 60) (fun r5 =>
  Option.bind (Po p_s_L r5.2 1 100) (fun r6 =>
  Option.bind (Po p_s_L r6.2 0 100) (fun r7 =>
  Option.bind (Po p_s_L r7.2 0 100) (fun r8 =>
  j2 (((((r1.1.set r3.1.toNat (An.mk r4.1 ((nth r1.1 r3.1).Heats) ((nth r1.1 r3.1).Long) ((nth r1.1 r3.1).Gap) ((nth r1.1 r3.1).Break))).set r3.1.toNat (An.mk r4.1 r5.1 ((nth r1.1 r3.1).Long) ((nth r1.1 r3.1).Gap) ((nth r1.1 r3.1).Break))).set r3.1.toNat (An.mk r4.1 r5.1 r6.1 ((nth r1.1 r3.1).Gap) ((nth r1.1 r3.1).Break))).set r3.1.toNat (An.mk r4.1 r5.1 r6.1 r7.1 ((nth r1.1 r3.1).Break))).set r3.1.toNat (An.mk r4.1 r5.1 r6.1 r7.1 r8.1)) r8.2)))))))
  else
  j2 r1.1 x1)) (fun j1 =>
  if (decide (0 < (r1.1.length : Int))) then
  Option.bind (Mq p_s_L r1.2 15) (fun r2 =>
  j1 r2.2 r2.1)
  else
  j1 r1.2 false))
def Lg (p_s : List An) : Option (List An) :=
  Chk (decide ((([] : List An) : List An).length + p_s.length < 1073741824)) (
  some ((([] : List An) : List An) ++ p_s))
def Xz (p_x : Int) : Option Int :=
  Ib (fun (x1 : Int) (x2 : Int) =>
  Ib (fun (x3 : Int) (x4 : Int) =>
  Chk (inB (IntKind.wrap .u8 x3) Nl.size) (
  some (W (x4 + (W (Ts Nl (IntKind.wrap .u8 x3))))))) (fun j2 =>
  if decide (256 ≤ x1) then
  j2 (Sw .u32 x1 8) (W (x2 + 8))
  else
  j2 x1 x2)) (fun j1 =>
  if decide (65536 ≤ p_x) then
  j1 (Sw .u32 p_x 16) 16
  else
  j1 p_x 0)
def Ya (p_x : Int) : Option Int :=
  Ib (fun (x1 : Int) (x2 : Int) =>
  Ib (fun (x3 : Int) (x4 : Int) =>
  Ib (fun (x5 : Int) (x6 : Int) =>
  Chk (inB (IntKind.wrap .u8 x5) Nl.size) (
  some (W (x6 + (W (Ts Nl (IntKind.wrap .u8 x5))))))) (fun j3 =>
  if decide (256 ≤ x3) then
  j3 (Sw .u64 x3 8) (W (x4 + 8))
  else
  j3 x3 x4)) (fun j2 =>
  if decide (65536 ≤ x1) then
  j2 (Sw .u64 x1 16) (W (x2 + 16))
  else
  j2 x1 x2)) (fun j1 =>
  if decide (4294967296 ≤ p_x) then
  j1 (Sw .u64 p_x 32) 32
  else
  j1 p_x 0)
def Ug (p_x : Int) : Option Int :=
  if false then
  Option.bind (Xz (IntKind.wrap .u32 p_x)) (fun r1 =>
  some r1)
  else
  Option.bind (Ya p_x) (fun r2 =>
  some r2)
def Kj (p_a : An) (p_b : An) : Int :=
  if Yf p_a.Key p_b.Key then
  (-1)
  else
  1
def Fm (p_a : Int) (j2 : (List An) → Option (List An)) : Nat → (List An) → Int → Option (List An)
  | 0,_,_=>none
  | m2 + 1,x3,x4=>Ib (fun (x5 : Bool) =>
  if x5 then
  Chk (inB (W (x4 - 1)) x3.length) (
  Chk (inB x4 x3.length) (
  Chk (inB x4 x3.length) (
  Chk (inB (W (x4 - 1)) (x3.set x4.toNat (nth x3 (W (x4 - 1)))).length) (
  Fm p_a j2 m2 ((x3.set x4.toNat (nth x3 (W (x4 - 1)))).set ((W (x4 - 1)).toNat) (nth x3 x4)) (W (x4 - 1))))))
  else
  j2 x3) (fun j3 =>
  if decide (p_a < x4) then
  Chk (inB x4 x3.length) (
  Chk (inB (W (x4 - 1)) x3.length) (
  j3 (decide ((Kj (nth x3 x4) (nth x3 (W (x4 - 1)))) < 0))))
  else
  j3 false)
def Fu (p_b : Int) (p_a : Int) (j1 : (List An) → Option (List An)) : Nat → (List An) → Int → Option (List An)
  | 0,_,_=>none
  | m1 + 1,x1,x2=>if decide (x2 < p_b) then
  Ib (fun (x3 : List An) =>
  Fu p_b p_a j1 m1 x3 (W (x2 + 1))) (fun j2 =>
  Fm p_a j2 ((x2 - p_a).toNat + 2) x1 x2)
  else
  j1 x1
def Hg (p_data : List An) (p_a : Int) (p_b : Int) : Option (List An) :=
  Ib (fun (x1 : List An) =>
  some x1) (fun j1 =>
  Fu p_b p_a j1 ((p_b - (W (p_a + 1))).toNat + 2) p_data (W (p_a + 1)))
def Ge (p_data : List An) : Nat → Int → Int → Int → Bool → Option (List An)
  | 0,_,_,_,_=>none
  | _ + 1,x1,x2,x3,x4=>if decide ((W (x2 - x1)) ≤ 12) then
  Option.bind (Hg p_data x1 x2) (fun r1 =>
  some r1)
  else
  if decide (x3 = 0) then
  none
  else
  if !x4 then
  none
  else
  none
def Ik (p_data : List An) (p_a : Int) (p_b : Int) (p_limit : Int) : Option (List An) :=
  Ge p_data 4611686018427387904 p_a p_b p_limit true
def Ie (p_x : List An) : Option (List An) :=
  Option.bind (Ug (IntKind.wrap .u64 (p_x.length : Int))) (fun r1 =>
  Option.bind (Ik p_x 0 (p_x.length : Int) r1) (fun r2 =>
  some r2))
def Jn (p_s_L : List Int) (y1 : ByteArray) (j2 : (List Ex) → Int → Option ((List Ex) × Int)) : List An → Nat → (List Ex) → Int → Option ((List Ex) × Int)
  | [],_,x3,x4=>j2 x3 x4
  | y2 :: ys2,i2,x3,x4=>Ib (fun (x5 : List Ex) (x6 : Int) =>
  Jn p_s_L y1 j2 ys2 (i2 + 1) x5 x6) (fun j3 =>
  Option.bind (Mq p_s_L x4 2) (fun r3 =>
  Ib (fun (x7 : List Ex) (x8 : Int) =>
  j3 x7 x8) (fun j4 =>
  if (r3.1 && (decide (0 < y2.Heats))) then
  Option.bind (Oh p_s_L r3.2 1 (Zg y2.Heats 3)) (fun r4 =>
  Chk (Pa x3.length) (
  j4 (x3 ++ [(Ex.mk y1 y2.Key r4.1)]) r4.2))
  else
  j4 x3 r3.2)))
def Iw (p_items : List An) (p_s_L : List Int) (j1 : (List Ex) → Int → Option ((List Ex) × Int)) : List ByteArray → Nat → (List Ex) → Int → Option ((List Ex) × Int)
  | [],_,x1,x2=>j1 x1 x2
  | y1 :: ys1,i1,x1,x2=>Option.bind (Lg p_items) (fun r1 =>
  Option.bind (Ie r1) (fun r2 =>
  Ib (fun (x3 : List Ex) (x4 : Int) =>
  Iw p_items p_s_L j1 ys1 (i1 + 1) x3 x4) (fun j2 =>
  Jn p_s_L y1 j2 r2 0 x1 x2)))
def Oi (p_s_L : List Int) (p_s_at : Int) (p_items : List An) : Option ((List Ex) × Int) :=
  Ib (fun (x1 : List Ex) (x2 : Int) =>
  some (x1,x2)) (fun j1 =>
  Iw p_items p_s_L j1 ([Ng,Qv,Qw] : List ByteArray) 0 ([] : List Ex) p_s_at)
def Rs (p_s_L : List Int) (p_s_at : Int) (p_items : List An) : Option ((List Ex) × Int) :=
  Option.bind (Oi p_s_L p_s_at p_items) (fun r1 =>
  Ib (fun (x1 : Int) (x2 : Bool) =>
  Ib (fun (x3 : List Ex) (x4 : Int) =>
  some (x3,x4)) (fun j2 =>
  if x2 then
  Option.bind (Mc p_s_L x1 (r1.1.length : Int)) (fun r3 =>
  Chk (inB r3.1 r1.1.length) (
  Ib (fun (x5 : List Ex) (x6 : Int) =>
  j2 x5 x6) (fun j3 =>
  Option.bind (Pn p_s_L r3.2 [(nth r1.1 r3.1).Who,Ga,Ng]) (fun r4 =>
  Option.bind (Pn p_s_L r4.2 [(nth r1.1 r3.1).Item,Ua]) (fun r5 =>
  Option.bind (Po p_s_L r5.2 1 3) (fun r6 =>
  j3 (((r1.1.set r3.1.toNat (Ex.mk r4.1 ((nth r1.1 r3.1).Item) ((nth r1.1 r3.1).Heat))).set r3.1.toNat (Ex.mk r4.1 r5.1 ((nth r1.1 r3.1).Heat))).set r3.1.toNat (Ex.mk r4.1 r5.1 r6.1)) r6.2))))))
  else
  j2 r1.1 x1)) (fun j1 =>
  if (decide (0 < (r1.1.length : Int))) then
  Option.bind (Mq p_s_L r1.2 12) (fun r2 =>
  j1 r2.2 r2.1)
  else
  j1 r1.2 false))
def Rt (s c : ByteArray) : Option ByteArray :=
  Chk (decide (s.size ≤ 9223372036854775807)) (Chk (decide (c.size < 4294967281)) (Chk (c.data.toList.all fun b=>decide (b.toNat < 128)) (some ⟨(Lib.trimS s.data.toList c.data.toList).toArray⟩)))
def Oj (p_s : ByteArray) : Option Bool :=
  Ib (fun (c1 : Bool) =>
  Ib (fun (c2 : Bool) =>
  Ib (fun (c3 : Bool) =>
  some c3) (fun j3 =>
  if c2 then Option.bind (Rt p_s Hm) (fun r1 =>
  j3 (c2 && (decide (r1 = Ga)))) else j3 (c2 && true))) (fun j2 =>
  if c1 then Chk (inB 0 p_s.size) (
  j2 (c1 && (decide ((Ts p_s 0) ≤ 122)))) else j2 (c1 && true))) (fun j1 =>
  if ((decide (1 ≤ (p_s.size : Int))) && (decide ((p_s.size : Int) ≤ 40))) then Chk (inB 0 p_s.size) (
  j1 (((decide (1 ≤ (p_s.size : Int))) && (decide ((p_s.size : Int) ≤ 40))) && (decide (97 ≤ (Ts p_s 0))))) else j1 (((decide (1 ≤ (p_s.size : Int))) && (decide ((p_s.size : Int) ≤ 40))) && true))
def Gy (p_n : Int) (p_low : Int) (p_high : Int) : Bool :=
  ((decide (p_low ≤ p_n)) && (decide (p_n ≤ p_high)))
def Hw (j1 : (List (ByteArray × Bool)) → Option Int) : List An → Nat → (List (ByteArray × Bool)) → Option Int
  | [],_,x1=>j1 x1
  | y1 :: ys1,i1,x1=>Option.bind (Oj y1.Key) (fun r1 =>
  if !r1 then
  some 5
  else
  if Xn x1 y1.Key false then
  some 6
  else
  if ((((!(Gy y1.Heats 1 60)) || (!(Gy y1.Long 1 3600000))) || (!(Gy y1.Gap 0 3600000))) || (!(Gy y1.Break 0 3600000))) then
  some 1
  else
  Hw j1 ys1 (i1 + 1) (Si x1 y1.Key true))
def Jq (p_l : List An) : Option Int :=
  if decide (100 < (p_l.length : Int)) then
  some 2
  else
  Ib (fun (x1 : List (ByteArray × Bool)) =>
  some 0) (fun j1 =>
  Hw j1 p_l 0 ([] : List (ByteArray × Bool)))
def Qb (p_x : An) (p_a1 : ByteArray) : Bool :=
  decide (p_x.Key = p_a1)
def Gc (p_f_0 : ByteArray) (j1 : Int) : List An → Nat → Int
  | [],_=>j1
  | y1 :: ys1,i1=>if (Qb y1 p_f_0) then
  (i1 : Int)
  else
  Gc p_f_0 j1 ys1 (i1 + 1)
def Jv (p_s : List An) (p_f_0 : ByteArray) : Int :=
  Ib ((-1)) (fun j1 =>
  Gc p_f_0 j1 p_s 0)
def Ez (p_l : List An) (p_key : ByteArray) : Int :=
  (Jv p_l p_key)
def Jp (s t : ByteArray) : Int:=Lib.compareBytes s.data.toList t.data.toList
def Pv (p_x : Int) : Bool :=
  !decide (p_x = p_x)
def Hd (p_x : Int) (p_y : Int) : Int :=
  if (Pv p_x) then
  if (Pv p_y) then
  0
  else
  (-1)
  else
  if (Pv p_y) then
  1
  else
  if decide (p_x < p_y) then
  (-1)
  else
  if decide (p_y < p_x) then
  1
  else
  0
def Lt (j1 : Int) : List Int → Nat → Int
  | [],_=>j1
  | y1 :: ys1,i1=>if !decide (y1 = 0) then
  y1
  else
  Lt j1 ys1 (i1 + 1)
def Oq (p_vals : List Int) : Int :=
  Ib (0) (fun j1 =>
  Lt j1 p_vals 0)
def Lm (p_a : Ex) (p_b : Ex) : Int :=
  (Oq [(Jp p_a.Who p_b.Who),(Jp p_a.Item p_b.Item),(Hd p_a.Heat p_b.Heat)])
def Ho (p_items : List An) (p_l : List Ex) (j1 : Option Int) : List Ex → Nat → Option Int
  | [],_=>j1
  | y1 :: ys1,i1=>Option.bind (Oj y1.Who) (fun r2 =>
  if !r2 then
  some 5
  else
  if decide ((Ez p_items y1.Item) < 0) then
  some 8
  else
  Chk (inB (Ez p_items y1.Item) p_items.length) (
  if !(Gy y1.Heat 1 ((nth p_items (Ez p_items y1.Item)).Heats)) then
  some 1
  else
  Ib (fun (x1 : Bool) =>
  if x1 then
  some 7
  else
  Ho p_items p_l j1 ys1 (i1 + 1)) (fun j2 =>
  if decide (0 < (i1 : Int)) then
  Chk (inB (W ((i1 : Int) - 1)) p_l.length) (
  j2 (decide (0 ≤ (Lm (nth p_l (W ((i1 : Int) - 1))) y1))))
  else
  j2 false)))
def La (p_items : List An) (p_l : List Ex) : Option Int :=
  Option.bind (Jq p_items) (fun r1 =>
  if !decide (r1 = 0) then
  some r1
  else
  if decide (2000 < (p_l.length : Int)) then
  some 2
  else
  Ib (some 0) (fun j1 =>
  Ho p_items p_l j1 p_l 0))
def Ix (y1 : An) (j2 : (List Fb) → Int → Option (List Fb)) : Nat → (List Fb) → Int → Int → Option (List Fb)
  | 0,_,_,_=>none
  | m1 + 1,x3,x4,x5=>if decide (x5 ≤ y1.Heats) then
  Ib (fun (x6 : List Fb) (x7 : Int) =>
  Ix y1 j2 m1 x6 x7 (W (x5 + 1))) (fun j3 =>
  Chk (Pa x3.length) (
  Ib (fun (x8 : Int) =>
  j3 (x3 ++ [(Fb.mk y1.Key x5 (Jj.mk x4 (W (x4 + y1.Long))))]) x8) (fun j4 =>
  if decide (x5 < y1.Heats) then
  j4 (W ((W (x4 + y1.Long)) + y1.Gap))
  else
  j4 (W (x4 + y1.Long)))))
  else
  j2 x3 x4
def Iy (j1 : (List Fb) → Option (List Fb)) : List An → Nat → (List Fb) → Int → Option (List Fb)
  | [],_,x1,_=>j1 x1
  | y1 :: ys1,i1,x1,x2=>Ib (fun (x3 : List Fb) (x4 : Int) =>
  Iy j1 ys1 (i1 + 1) x3 (W (x4 + y1.Break))) (fun j2 =>
  Ix y1 j2 ((y1.Heats - 1).toNat + 2) x1 x2 1)
def Mx (p_l : List An) (p_from : Int) : Option (List Fb) :=
  Ib (fun (x1 : List Fb) =>
  some x1) (fun j1 =>
  Iy j1 p_l 0 ([] : List Fb) p_from)
def Qh (p_l : List Fb) (p_from : Int) : Option Int :=
  if decide ((p_l.length : Int) = 0) then
  some p_from
  else
  Chk (inB (W ((p_l.length : Int) - 1)) p_l.length) (
  some (((nth p_l (W ((p_l.length : Int) - 1))).Time).To))
def Ln (p_a : An) (p_b : An) : Int :=
  (Jp p_a.Key p_b.Key)
def Fp (p_a : Int) (j2 : (List An) → Option (List An)) : Nat → (List An) → Int → Option (List An)
  | 0,_,_=>none
  | m2 + 1,x3,x4=>Ib (fun (x5 : Bool) =>
  if x5 then
  Chk (inB (W (x4 - 1)) x3.length) (
  Chk (inB x4 x3.length) (
  Chk (inB x4 x3.length) (
  Chk (inB (W (x4 - 1)) (x3.set x4.toNat (nth x3 (W (x4 - 1)))).length) (
  Fp p_a j2 m2 ((x3.set x4.toNat (nth x3 (W (x4 - 1)))).set ((W (x4 - 1)).toNat) (nth x3 x4)) (W (x4 - 1))))))
  else
  j2 x3) (fun j3 =>
  if decide (p_a < x4) then
  Chk (inB x4 x3.length) (
  Chk (inB (W (x4 - 1)) x3.length) (
  j3 (decide ((Ln (nth x3 x4) (nth x3 (W (x4 - 1)))) < 0))))
  else
  j3 false)
def Fx (p_b : Int) (p_a : Int) (j1 : (List An) → Option (List An)) : Nat → (List An) → Int → Option (List An)
  | 0,_,_=>none
  | m1 + 1,x1,x2=>if decide (x2 < p_b) then
  Ib (fun (x3 : List An) =>
  Fx p_b p_a j1 m1 x3 (W (x2 + 1))) (fun j2 =>
  Fp p_a j2 ((x2 - p_a).toNat + 2) x1 x2)
  else
  j1 x1
def Hl (p_data : List An) (p_a : Int) (p_b : Int) : Option (List An) :=
  Ib (fun (x1 : List An) =>
  some x1) (fun j1 =>
  Fx p_b p_a j1 ((p_b - (W (p_a + 1))).toNat + 2) p_data (W (p_a + 1)))
def Gs (p_data : List An) : Nat → Int → Int → Int → Bool → Option (List An)
  | 0,_,_,_,_=>none
  | _ + 1,x1,x2,x3,x4=>if decide ((W (x2 - x1)) ≤ 12) then
  Option.bind (Hl p_data x1 x2) (fun r1 =>
  some r1)
  else
  if decide (x3 = 0) then
  none
  else
  if !x4 then
  none
  else
  none
def Jf (p_data : List An) (p_a : Int) (p_b : Int) (p_limit : Int) : Option (List An) :=
  Gs p_data 4611686018427387904 p_a p_b p_limit true
def Je (p_x : List An) : Option (List An) :=
  Option.bind (Ug (IntKind.wrap .u64 (p_x.length : Int))) (fun r1 =>
  Option.bind (Jf p_x 0 (p_x.length : Int) r1) (fun r2 =>
  some r2))
def Gz (p_items : List An) (p_l : List Ex) (p_need : Int) (j1 : Int → List (List Ew) → Option (Int × List (List Ew))) : List Ex → Nat → Int → List (List Ew) → Option (Int × List (List Ew))
  | [],_,x1,x2=>j1 x1 x2
  | y1 :: ys1,i1,x1,x2=>Ib (fun (x3 : List (List Ew)) =>
  Chk (inB (W ((x3.length : Int) - 1)) x3.length) (
  Chk (inB (Ez p_items y1.Item) (nth x3 (W ((x3.length : Int) - 1))).length) (
  Ib (fun (x4 : Int) =>
  Gz p_items p_l p_need j1 ys1 (i1 + 1) x4 (x3.set (W ((x3.length : Int) - 1)).toNat ((nth x3 (W ((x3.length : Int) - 1))).set (Ez p_items y1.Item).toNat (Ew.mk (if decide ((nth (nth x3 (W ((x3.length : Int) - 1))) (Ez p_items y1.Item)).last_ = 0) then y1.Heat else (nth (nth x3 (W ((x3.length : Int) - 1))) (Ez p_items y1.Item)).first_) y1.Heat)))) (fun j3 =>
  if decide ((nth (nth x3 (W ((x3.length : Int) - 1))) (Ez p_items y1.Item)).last_ = 0) then
  j3 x1
  else
  Chk (inB (Ez p_items y1.Item) p_items.length) (
  if decide ((W ((W ((W ((W (y1.Heat - (nth (nth x3 (W ((x3.length : Int) - 1))) (Ez p_items y1.Item)).last_)) - 1)) * (nth p_items (Ez p_items y1.Item)).Long)) + (W ((W (y1.Heat - (nth (nth x3 (W ((x3.length : Int) - 1))) (Ez p_items y1.Item)).last_)) * (nth p_items (Ez p_items y1.Item)).Gap)))) < p_need) then
  j3 (W (x1 + 1))
  else
  j3 x1))))) (fun j2 =>
  Ib (fun (c1 : Bool) =>
  if c1 then
  Chk (decide (0 ≤ (p_items.length : Int)) && decide ((p_items.length : Int) < 1073741824)) (
  Chk (Pa x2.length) (
  j2 (x2 ++ [List.replicate ((p_items.length : Int).toNat) (Ew.mk 0 0)])))
  else
  j2 x2) (fun jc =>
  if decide ((i1 : Int) = 0) then
  jc (decide ((i1 : Int) = 0) || true)
  else
  Chk (inB (W ((i1 : Int) - 1)) p_l.length) (
  jc (decide ((i1 : Int) = 0) || (!decide ((nth p_l (W ((i1 : Int) - 1))).Who = y1.Who))))))
def Ok (p_items : List An) (p_l : List Ex) (p_need : Int) : Option (Int × List (List Ew)) :=
  Ib (fun (x1 : Int) (x2 : List (List Ew))=>some (x1,x2)) (fun j1 =>
  Gz p_items p_l p_need j1 p_l 0 0 [])
def Qm (p_s : List Int) : Option (List Int) :=
  Chk (decide ((([] : List Int) : List Int).length + p_s.length < 1073741824)) (
  some ((([] : List Int) : List Int) ++ p_s))
def Re (p_n : Int) : Option (List Int):=Chk (decide (0 ≤ p_n) && decide (p_n < 1073741824)) (some ([] : List Int))
def Iz (j1 : Int → Option (List Int)) : List (List Int) → Nat → Int → Option (List Int)
  | [],_,x1=>j1 x1
  | y1 :: ys1,i1,x1=>if decide ((W (x1 + (y1.length : Int))) < 0) then
  none
  else
  Iz j1 ys1 (i1 + 1) (W (x1 + (y1.length : Int)))
def Ja (j2 : (List Int) → Option (List Int)) : List (List Int) → Nat → (List Int) → Option (List Int)
  | [],_,x2=>j2 x2
  | y2 :: ys2,i2,x2=>Chk (decide (x2.length + y2.length < 1073741824)) (
  Ja j2 ys2 (i2 + 1) (x2 ++ y2))
def Ol (p_slices : List (List Int)) : Option (List Int) :=
  Ib (fun (x1 : Int) =>
  Option.bind (Re x1) (fun r2 =>
  Ib (fun (x2 : List Int) =>
  some x2) (fun j2 =>
  Ja j2 p_slices 0 r2))) (fun j1 =>
  Iz j1 p_slices 0 0)
def Hc (p_x : An) (p_heat : Int) : Int :=
  W ((W (p_heat - 1)) * (W (p_x.Long + p_x.Gap)))
def Lu (p_now : List Int) (p_rest : List Int) (self : (List An) → Int → (List (List Ew)) → Int → (List Int) → Int → Int → Bool → (List Int) → (List Int) → Option ((List Int) × Int × Int × Bool)) (p_o_items : List An) (p_o_within : Int) (p_o_spans : List (List Ew)) (p_o_need : Int) (j1 : Int → Int → Bool → (List Int) → Option ((List Int) × Int × Int × Bool)) : List Int → Nat → Int → Int → Bool → (List Int) → Option ((List Int) × Int × Int × Bool)
  | [],_,x1,x2,x3,x4=>j1 x1 x2 x3 x4
  | y1 :: ys1,i1,x1,x2,x3,x4=>Ib (fun (x5 : Int) (x6 : Int) (x7 : Bool) (x8 : List Int) =>
  Lu p_now p_rest self p_o_items p_o_within p_o_spans p_o_need j1 ys1 (i1 + 1) x5 x6 x7 x8) (fun j2 =>
  Option.bind (Qm p_now) (fun r1 =>
  Chk (Pa r1.length) (
  Chk (Ql 0 (i1 : Int) p_rest.length) (
  Chk (Ql (W ((i1 : Int) + 1)) (p_rest.length : Int) p_rest.length) (
  Option.bind (Ol ([cut p_rest 0 (i1 : Int),cut p_rest (W ((i1 : Int) + 1)) p_rest.length] : List (List Int))) (fun r2 =>
  Option.bind (self p_o_items p_o_within p_o_spans p_o_need x4 x1 x2 x3 (r1 ++ [y1]) r2) (fun r3 =>
  j2 r3.2.1 r3.2.2.1 r3.2.2.2 r3.1)))))))
def Lv (p_o_items : List An) (j3 : (List Int) → Int → Option ((List Int) × Int × Int × Bool)) : List Int → Nat → (List Int) → Int → Int → Option ((List Int) × Int × Int × Bool)
  | [],_,x9,_,x11=>j3 x9 x11
  | y2 :: ys2,i2,x9,x10,_=>Chk (inB y2 p_o_items.length) (
  Chk (inB y2 x9.length) (
  Lv p_o_items j3 ys2 (i2 + 1) (x9.set y2.toNat x10) (W ((W ((W (x10 + (Hc (nth p_o_items y2) ((nth p_o_items y2).Heats)))) + ((nth p_o_items y2).Long))) + ((nth p_o_items y2).Break))) (W ((W (x10 + (Hc (nth p_o_items y2) ((nth p_o_items y2).Heats)))) + ((nth p_o_items y2).Long)))))
def Lw (y3 : (List Ew)) (x9 : List Int) (p_o_items : List An) (p_o_need : Int) (j5 : Int → Option ((List Int) × Int × Int × Bool)) : List Int → Nat → Int → Int → Option ((List Int) × Int × Int × Bool)
  | [],_,x13,_=>j5 x13
  | y4 :: ys4,i4,x13,x14=>Ib (fun (x15 : Int) (x16 : Int) =>
  Lw y3 x9 p_o_items p_o_need j5 ys4 (i4 + 1) x15 x16) (fun j6 =>
  Chk (inB y4 y3.length) (
  if decide (((nth y3 y4).last_) = 0) then
  j6 x13 x14
  else
  Chk (inB y4 x9.length) (
  Chk (inB y4 p_o_items.length) (
  Chk (inB y4 y3.length) (
  Ib (fun (x17 : Int) =>
  Chk (inB y4 x9.length) (
  Chk (inB y4 p_o_items.length) (
  Chk (inB y4 y3.length) (
  Chk (inB y4 p_o_items.length) (
  j6 x17 (W ((W ((nth x9 y4) + (Hc (nth p_o_items y4) ((nth y3 y4).last_)))) + ((nth p_o_items y4).Long)))))))) (fun j7 =>
  if ((decide (0 ≤ x14)) && (decide ((W ((W ((nth x9 y4) + (Hc (nth p_o_items y4) ((nth y3 y4).first_)))) - x14)) < p_o_need))) then
  j7 (W (x13 + 1))
  else
  j7 x13))))))
def Lx (x9 : List Int) (p_o_items : List An) (p_o_need : Int) (p_now : List Int) (j4 : Int → Option ((List Int) × Int × Int × Bool)) : List (List Ew) → Nat → Int → Option ((List Int) × Int × Int × Bool)
  | [],_,x12=>j4 x12
  | y3 :: ys3,i3,x12=>Ib (fun (x13 : Int) =>
  Lx x9 p_o_items p_o_need p_now j4 ys3 (i3 + 1) x13) (fun j5 =>
  Lw y3 x9 p_o_items p_o_need j5 p_now 0 x12 (-1))
def Te (self : (List An) → Int → (List (List Ew)) → Int → (List Int) → Int → Int → Bool → (List Int) → (List Int) → Option ((List Int) × Int × Int × Bool)) (p_o_items : List An) (p_o_within : Int) (p_o_spans : List (List Ew)) (p_o_need : Int) (p_o_best : List Int) (p_o_short : Int) (p_o_ends : Int) (p_o_found : Bool) (p_now : List Int) (p_rest : List Int) : Option ((List Int) × Int × Int × Bool) :=
  if decide (0 < (p_rest.length : Int)) then
  Ib (fun (x1 : Int) (x2 : Int) (x3 : Bool) (x4 : List Int) =>
  some (x4,x1,x2,x3)) (fun j1 =>
  Lu p_now p_rest self p_o_items p_o_within p_o_spans p_o_need j1 p_rest 0 p_o_short p_o_ends p_o_found p_o_best)
  else
  Chk (decide (0 ≤ (p_o_items.length : Int)) && decide ((p_o_items.length : Int) < 1073741824)) (
  Ib (fun (x9 : List Int) (x11 : Int) =>
  Ib (fun (x12 : Int) =>
  Ib (fun (x18 : Bool) =>
  Ib (fun (x19 : Int) (x20 : Int) (x21 : Bool) (x22 : List Int) =>
  some (x22,x19,x20,x21)) (fun j9 =>
  if x18 then
  j9 x12 x11 true p_now
  else
  j9 p_o_short p_o_ends p_o_found p_o_best)) (fun j8 =>
  if !p_o_found then
  j8 true
  else
  j8 (decide ((Oq [(Hd x12 p_o_short),(Hd x11 p_o_ends)]) < 0)))) (fun j4 =>
  Lx x9 p_o_items p_o_need p_now j4 p_o_spans 0 p_o_within)) (fun j3 =>
  Lv p_o_items j3 p_now 0 (List.replicate ((p_o_items.length : Int).toNat) 0 : List Int) 0 0))
def Nv : Nat → (List An) → Int → (List (List Ew)) → Int → (List Int) → Int → Int → Bool → (List Int) → (List Int) → Option ((List Int) × Int × Int × Bool)
  | 0,_,_,_,_,_,_,_,_,_,_=>none
  | m + 1,p_o_items,p_o_within,p_o_spans,p_o_need,p_o_best,p_o_short,p_o_ends,p_o_found,p_now,p_rest=>Te (Nv m) p_o_items p_o_within p_o_spans p_o_need p_o_best p_o_short p_o_ends p_o_found p_now p_rest
def Kf (j2 : (List Int) → Option ((List ByteArray) × Int × Int)) : List An → Nat → (List Int) → Option ((List ByteArray) × Int × Int)
  | [],_,x2=>j2 x2
  | _ :: ys1,i1,x2=>Chk (Pa x2.length) (
  Kf j2 ys1 (i1 + 1) (x2 ++ [(i1 : Int)]))
def Jx (r5 : (List An)) (j3 : (List ByteArray) → Option ((List ByteArray) × Int × Int)) : List Int → Nat → (List ByteArray) → Option ((List ByteArray) × Int × Int)
  | [],_,x3=>j3 x3
  | y2 :: ys2,i2,x3=>Chk (inB y2 r5.length) (
  Chk (Pa x3.length) (
  Jx r5 j3 ys2 (i2 + 1) (x3 ++ [(nth r5 y2).Key])))
def Np (p_items : List An) (p_l : List Ex) (p_need : Int) : Option ((List ByteArray) × Int × Int) :=
  Option.bind (La p_items p_l) (fun r1 =>
  if !decide (r1 = 0) then
  some (([] : List ByteArray),0,r1)
  else
  if decide (8 < (p_items.length : Int)) then
  some (([] : List ByteArray),0,2)
  else
  Ib (fun (x1 : Bool) =>
  if x1 then
  some (([] : List ByteArray),0,1)
  else
  Option.bind (Lg p_items) (fun r4 =>
  Option.bind (Je r4) (fun r5 =>
  Option.bind (Ok r5 p_l p_need) (fun r6 =>
  Ib (fun (x2 : List Int) =>
  Option.bind (Nv 16 r5 r6.1 r6.2 p_need ([] : List Int) 0 0 false ([] : List Int) x2) (fun r7 =>
  Ib (fun (x3 : List ByteArray) =>
  some (x3,r7.2.1,0)) (fun j3 =>
  Jx r5 j3 r7.1 0 ([] : List ByteArray)))) (fun j2 =>
  Kf j2 r5 0 ([] : List Int)))))) (fun j1 =>
  if (!(Gy p_need 0 3600000)) then
  j1 true
  else
  Option.bind (Mx p_items 0) (fun r2 =>
  Option.bind (Qh r2 0) (fun r3 =>
  j1 (decide (345686400000 < r3))))))
def Gr (p_n : Int) (p_low : Int) (p_high : Int) : Bool :=
  ((decide (p_low ≤ p_n)) && (decide (p_n ≤ p_high)))
def Qc (s : ByteArray) (c : Int) : Int:=Lib.indexByte s.data.toList c.toNat.toUInt8
def Kg (p_s : ByteArray) (p_some : ByteArray) (j1 : Option Bool) : Nat → Int → Option Bool
  | 0,_=>none
  | m1 + 1,x1=>if decide (x1 < (p_s.size : Int)) then
  Chk (inB x1 p_s.size) (
  if decide ((Qc p_some (Ts p_s x1)) < 0) then
  some false
  else
  Kg p_s p_some j1 m1 (W (x1 + 1)))
  else
  j1
def Pw (p_s : ByteArray) (p_some : ByteArray) : Option Bool :=
  Ib (some true) (fun j1 =>
  Kg p_s p_some j1 (((p_s.size : Int) - 0).toNat + 2) 0)
def Pp (p_s : ByteArray) : Option Bool :=
  Ib (fun (c1 : Bool) =>
  Ib (fun (c2 : Bool) =>
  some c2) (fun j2 =>
  if c1 then Option.bind (Pw p_s Hm) (fun r2 =>
  j2 (c1 && r2)) else j2 (c1 && true))) (fun j1 =>
  if (Gr (p_s.size : Int) 1 40) then Chk (Ql 0 1 p_s.size) (
  Option.bind (Pw (FE p_s 0 1) Jw) (fun r1 =>
  j1 ((Gr (p_s.size : Int) 1 40) && r1))) else j1 ((Gr (p_s.size : Int) 1 40) && true))
def Nw (p_x : An) (p_a1 : ByteArray) : Bool :=
  decide (p_x.Key = p_a1)
def Ft (p_f_0 : ByteArray) (j1 : Int) : List An → Nat → Int
  | [],_=>j1
  | y1 :: ys1,i1=>if (Nw y1 p_f_0) then
  (i1 : Int)
  else
  Ft p_f_0 j1 ys1 (i1 + 1)
def Js (p_s : List An) (p_f_0 : ByteArray) : Int :=
  Ib ((-1)) (fun j1 =>
  Ft p_f_0 j1 p_s 0)
def Gl (p_l : List An) (p_key : ByteArray) : Int :=
  (Js p_l p_key)
def Ip (p_l : List An) (j1 : Option Int) : List An → Nat → Option Int
  | [],_=>j1
  | y1 :: ys1,i1=>Option.bind (Pp y1.Key) (fun r1 =>
  if !r1 then
  some 5
  else
  Chk (Ql 0 (i1 : Int) p_l.length) (
  if decide (0 ≤ (Gl (cut p_l 0 (i1 : Int)) y1.Key)) then
  some 6
  else
  if ((((!(Gr y1.Heats 1 60)) || (!(Gr y1.Long 1 3600000))) || (!(Gr y1.Gap 0 3600000))) || (!(Gr y1.Break 0 3600000))) then
  some 1
  else
  Ip p_l j1 ys1 (i1 + 1)))
def Kr (p_l : List An) : Option Int :=
  if decide (100 < (p_l.length : Int)) then
  some 2
  else
  Ib (some 0) (fun j1 =>
  Ip p_l j1 p_l 0)
def Nr (p_x : ByteArray) : Bool :=
  !decide (p_x = p_x)
def Mj (p_x : ByteArray) (p_y : ByteArray) : Int :=
  if (Nr p_x) then
  if (Nr p_y) then
  0
  else
  (-1)
  else
  if (Nr p_y) then
  1
  else
  if Yf p_x p_y then
  (-1)
  else
  if !(Yf p_x p_y || decide (p_x = p_y)) then
  1
  else
  0
def Hf (p_s2 : List ByteArray) (j1 : Option Int) : List ByteArray → Nat → Option Int
  | [],_=>j1
  | y1 :: ys1,i1=>if decide ((p_s2.length : Int) ≤ (i1 : Int)) then
  some 1
  else
  Chk (inB (i1 : Int) p_s2.length) (
  if !decide ((Mj y1 (nth p_s2 (i1 : Int))) = 0) then
  some (Mj y1 (nth p_s2 (i1 : Int)))
  else
  Hf p_s2 j1 ys1 (i1 + 1))
def Kc (p_s1 : List ByteArray) (p_s2 : List ByteArray) : Option Int :=
  Ib (if decide ((p_s1.length : Int) < (p_s2.length : Int)) then
  some (-1)
  else
  some 0) (fun j1 =>
  Hf p_s2 j1 p_s1 0)
def Sp (p_n : Int) : Int :=
  if decide (p_n < 0) then
  (-1)
  else
  if decide (0 < p_n) then
  1
  else
  0
def Nx (p_a : Ex) (p_b : Ex) : Option Int :=
  Option.bind (Kc [p_a.Who,p_a.Item] [p_b.Who,p_b.Item]) (fun r1 =>
  if !decide (r1 = 0) then
  some r1
  else
  some (Sp (W (p_a.Heat - p_b.Heat))))
def Hy (p_items : List An) (p_l : List Ex) (j1 : Option Int) : List Ex → Nat → Option Int
  | [],_=>j1
  | y1 :: ys1,i1=>Option.bind (Pp y1.Who) (fun r2 =>
  if !r2 then
  some 5
  else
  if decide ((Gl p_items y1.Item) < 0) then
  some 8
  else
  Chk (inB (Gl p_items y1.Item) p_items.length) (
  if !(Gr y1.Heat 1 ((nth p_items (Gl p_items y1.Item)).Heats)) then
  some 1
  else
  Ib (fun (x1 : Bool) =>
  if x1 then
  some 7
  else
  Hy p_items p_l j1 ys1 (i1 + 1)) (fun j2 =>
  if decide (0 < (i1 : Int)) then
  Chk (inB (W ((i1 : Int) - 1)) p_l.length) (
  Option.bind (Nx (nth p_l (W ((i1 : Int) - 1))) y1) (fun r3 =>
  j2 (decide (0 ≤ r3))))
  else
  j2 false)))
def Nh (p_items : List An) (p_l : List Ex) : Option Int :=
  Option.bind (Kr p_items) (fun r1 =>
  if !decide (r1 = 0) then
  some r1
  else
  if decide (2000 < (p_l.length : Int)) then
  some 2
  else
  Ib (some 0) (fun j1 =>
  Hy p_items p_l j1 p_l 0))
def Iq (j1 : Int → Option Int) : List An → Nat → Int → Option Int
  | [],_,x1=>j1 x1
  | y1 :: ys1,i1,x1=>Iq j1 ys1 (i1 + 1) (W (x1 + (W ((W ((W (y1.Heats * y1.Long)) + (W ((W (y1.Heats - 1)) * y1.Gap)))) + y1.Break))))
def Le (p_items : List An) (p_l : List Ex) (p_need : Int) : Option Int :=
  Option.bind (Nh p_items p_l) (fun r1 =>
  if !decide (r1 = 0) then
  some r1
  else
  if decide (8 < (p_items.length : Int)) then
  some 2
  else
  if !(Gr p_need 0 3600000) then
  some 1
  else
  Ib (fun (x1 : Int) =>
  if decide (345686400000 < x1) then
  some 1
  else
  some 0) (fun j1 =>
  Iq j1 p_items 0 0))
def Ir (p_s : List ByteArray) (x1 : Int) (j2 : (List ByteArray) → Int → Option (List ByteArray)) : Nat → (List ByteArray) → Int → Int → Option (List ByteArray)
  | 0,_,_,_=>none
  | m2 + 1,x2,x3,x4=>if decide (x4 < (((p_s.length : Int).toNat - x1.toNat : Nat) : Int)) then
  Ib (fun (x5 : List ByteArray) (x6 : Int) =>
  Ir p_s x1 j2 m2 x5 x6 (W (x4 + 1))) (fun j3 =>
  Chk (inB x4 ((p_s.length : Int).toNat - x1.toNat)) (
  Chk (inB (W (x4 - 1)) ((p_s.length : Int).toNat - x1.toNat)) (
  Ib (fun (x7 : List ByteArray) (x8 : Int) =>
  j3 x7 x8) (fun j4 =>
  if !decide ((nth (cut x2 x1 (p_s.length : Int)) x4) = (nth (cut x2 x1 (p_s.length : Int)) (W (x4 - 1)))) then
  Chk (inB x4 ((p_s.length : Int).toNat - x1.toNat)) (
  Chk (inB x3 x2.length) (
  j4 (x2.set x3.toNat (nth (cut x2 x1 (p_s.length : Int)) x4)) (W (x3 + 1))))
  else
  j4 x2 x3))))
  else
  j2 x2 x3
def Hp (p_s : List ByteArray) (j1 : Option (List ByteArray)) : Nat → Int → Option (List ByteArray)
  | 0,_=>none
  | m1 + 1,x1=>if decide (x1 < (p_s.length : Int)) then
  Chk (inB x1 p_s.length) (
  Chk (inB (W (x1 - 1)) p_s.length) (
  if decide ((nth p_s x1) = (nth p_s (W (x1 - 1)))) then
  Chk (Ql x1 (p_s.length : Int) p_s.length) (
  Ib (fun (x2 : List ByteArray) (x3 : Int) =>
  Chk (Ql x3 (x2.length : Int) x2.length) (
  Chk (Ql 0 x3 (clr x2 x3 (x2.length : Int) Ga).length) (
  some (cut (clr x2 x3 (x2.length : Int) Ga) (0 : Int) x3)))) (fun j2 =>
  Ir p_s x1 j2 (((((p_s.length : Int).toNat - x1.toNat : Nat) : Int) - 1).toNat + 2) p_s x1 1))
  else
  Hp p_s j1 m1 (W (x1 + 1))))
  else
  j1
def Kt (p_s : List ByteArray) : Option (List ByteArray) :=
  if decide ((p_s.length : Int) < 2) then
  some p_s
  else
  Ib (some p_s) (fun j1 =>
  Hp p_s j1 (((p_s.length : Int) - 1).toNat + 2) 1)
def Io (y1 : An) (i1 : Nat) (p_l : List An) (p_from : Int) (j2 : (List Fb) → Option (List Fb)) : Nat → (List Fb) → Int → Option (List Fb)
  | 0,_,_=>none
  | m1 + 1,x2,x3=>if decide (x3 ≤ y1.Heats) then
  Ib (fun (x4 : Int) =>
  Chk (Pa x2.length) (
  Io y1 i1 p_l p_from j2 m1 (x2 ++ [(Fb.mk y1.Key x3 (Jj.mk x4 (W (x4 + y1.Long))))]) (W (x3 + 1)))) (fun j3 =>
  if decide (0 < (x2.length : Int)) then
  Chk (inB (W ((x2.length : Int) - 1)) x2.length) (
  Ib (fun (x5 : Int) =>
  j3 x5) (fun j4 =>
  if decide (x3 = 1) then
  Chk (inB (W ((x2.length : Int) - 1)) x2.length) (
  Chk (inB (W ((i1 : Int) - 1)) p_l.length) (
  j4 (W ((((nth x2 (W ((x2.length : Int) - 1))).Time).To) + ((nth p_l (W ((i1 : Int) - 1))).Break)))))
  else
  j4 (W ((((nth x2 (W ((x2.length : Int) - 1))).Time).To) + y1.Gap))))
  else
  j3 p_from)
  else
  j2 x2
def Jg (p_l : List An) (p_from : Int) (j1 : (List Fb) → Option (List Fb)) : List An → Nat → (List Fb) → Option (List Fb)
  | [],_,x1=>j1 x1
  | y1 :: ys1,i1,x1=>Ib (fun (x2 : List Fb) =>
  Jg p_l p_from j1 ys1 (i1 + 1) x2) (fun j2 =>
  Io y1 i1 p_l p_from j2 ((y1.Heats - 1).toNat + 2) x1 1)
def Ns (p_l : List An) (p_from : Int) : Option (List Fb) :=
  Ib (fun (x1 : List Fb) =>
  some x1) (fun j1 =>
  Jg p_l p_from j1 p_l 0 ([] : List Fb))
def Jy (p_v : Ex) (j1 : Int) : List Ex → Nat → Int
  | [],_=>j1
  | y1 :: ys1,i1=>if decide (p_v = y1) then
  (i1 : Int)
  else
  Jy p_v j1 ys1 (i1 + 1)
def Ru (p_s : List Ex) (p_v : Ex) : Int :=
  Ib ((-1)) (fun j1 =>
  Jy p_v j1 p_s 0)
def Om (p_s : List Ex) (p_v : Ex) : Bool :=
  decide (0 ≤ (Ru p_s p_v))
def Lf (p_s : Fb) (p_a1 : List Ex) (p_a2 : ByteArray) : Bool :=
  !(Om p_a1 (Ex.mk p_a2 p_s.Item p_s.Heat))
def Gi (p_f_0 : List Ex) (p_f_1 : ByteArray) (j1 : Int) : List Fb → Nat → Int
  | [],_=>j1
  | y1 :: ys1,i1=>if (Lf y1 p_f_0 p_f_1) then
  (i1 : Int)
  else
  Gi p_f_0 p_f_1 j1 ys1 (i1 + 1)
def Gt (p_s : List Fb) (p_f_0 : List Ex) (p_f_1 : ByteArray) : Int :=
  Ib ((-1)) (fun j1 =>
  Gi p_f_0 p_f_1 j1 p_s 0)
def Gf (p_del_0 : List Ex) (p_del_1 : ByteArray) (j1 : (List Fb) → Int → Option (List Fb)) : Nat → (List Fb) → Int → Int → Option (List Fb)
  | 0,_,_,_=>none
  | m1 + 1,x1,x2,x3=>if decide (x3 < (x1.length : Int)) then
  Ib (fun (x4 : List Fb) (x5 : Int) =>
  Gf p_del_0 p_del_1 j1 m1 x4 x5 (W (x3 + 1))) (fun j2 =>
  Chk (inB x3 x1.length) (
  Ib (fun (x6 : List Fb) (x7 : Int) =>
  j2 x6 x7) (fun j3 =>
  if !(Lf (Fb.mk ((nth x1 x3).Item) ((nth x1 x3).Heat) ((nth x1 x3).Time)) p_del_0 p_del_1) then
  Chk (inB x2 x1.length) (
  j3 (x1.set x2.toNat (Fb.mk ((nth x1 x3).Item) ((nth x1 x3).Heat) ((nth x1 x3).Time))) (W (x2 + 1)))
  else
  j3 x1 x2)))
  else
  j1 x1 x2
def Jk (p_s : List Fb) (p_del_0 : List Ex) (p_del_1 : ByteArray) : Option (List Fb) :=
  if decide ((Gt p_s p_del_0 p_del_1) = (-1)) then
  some p_s
  else
  Ib (fun (x1 : List Fb) (x2 : Int) =>
  Chk (Ql x2 (x1.length : Int) x1.length) (
  Chk (Ql 0 x2 (clr x1 x2 (x1.length : Int) (Fb.mk Ga 0 (Jj.mk 0 0))).length) (
  some (cut (clr x1 x2 (x1.length : Int) (Fb.mk Ga 0 (Jj.mk 0 0))) (0 : Int) x2)))) (fun j1 =>
  Gf p_del_0 p_del_1 j1 (((p_s.length : Int) - (W ((Gt p_s p_del_0 p_del_1) + 1))).toNat + 2) p_s (Gt p_s p_del_0 p_del_1) (W ((Gt p_s p_del_0 p_del_1) + 1)))
def Mk (p_items : List An) (p_l : List Ex) (p_who : ByteArray) (p_from : Int) : Option (List Fb) :=
  Option.bind (Ns p_items p_from) (fun r1 =>
  Option.bind (Jk r1 p_l p_who) (fun r2 =>
  some r2))
def Jt (j1 : (List ByteArray) → Option (List Gn)) : List Ex → Nat → (List ByteArray) → Option (List Gn)
  | [],_,x1=>j1 x1
  | y1 :: ys1,i1,x1=>Chk (Pa x1.length) (
  Jt j1 ys1 (i1 + 1) (x1 ++ [y1.Who]))
def Kd (r2 : (List Fb)) (y2 : ByteArray) (j3 : (List Gn) → Option (List Gn)) : Nat → (List Gn) → Int → Option (List Gn)
  | 0,_,_=>none
  | m1 + 1,x3,x4=>if decide (x4 < (r2.length : Int)) then
  Chk (inB (W (x4 - 1)) r2.length) (
  Chk (inB x4 r2.length) (
  Chk (inB x4 r2.length) (
  Chk (inB (W (x4 - 1)) r2.length) (
  Chk (Pa x3.length) (
  Kd r2 y2 j3 m1 (x3 ++ [(Gn.mk y2 (Fb.mk ((nth r2 (W (x4 - 1))).Item) ((nth r2 (W (x4 - 1))).Heat) ((nth r2 (W (x4 - 1))).Time)) (Fb.mk ((nth r2 x4).Item) ((nth r2 x4).Heat) ((nth r2 x4).Time)) (W ((((nth r2 x4).Time).From) - (((nth r2 (W (x4 - 1))).Time).To))))]) (W (x4 + 1)))))))
  else
  j3 x3
def Ht (p_items : List An) (p_l : List Ex) (p_from : Int) (j2 : (List Gn) → Option (List Gn)) : List ByteArray → Nat → (List Gn) → Option (List Gn)
  | [],_,x2=>j2 x2
  | y2 :: ys2,i2,x2=>Option.bind (Mk p_items p_l y2 p_from) (fun r2 =>
  Ib (fun (x3 : List Gn) =>
  Ht p_items p_l p_from j2 ys2 (i2 + 1) x3) (fun j3 =>
  Kd r2 y2 j3 (((r2.length : Int) - 1).toNat + 2) x2 1))
def Pd (p_items : List An) (p_l : List Ex) (p_from : Int) : Option (List Gn) :=
  Ib (fun (x1 : List ByteArray) =>
  Option.bind (Kt x1) (fun r1 =>
  Ib (fun (x2 : List Gn) =>
  some x2) (fun j2 =>
  Ht p_items p_l p_from j2 r1 0 ([] : List Gn)))) (fun j1 =>
  Jt j1 p_l 0 ([] : List ByteArray))
def Oz (p_r : Gn) (p_a1 : Int) : Bool :=
  decide (p_a1 ≤ p_r.Long)
def Gj (p_f_0 : Int) (j1 : Int) : List Gn → Nat → Int
  | [],_=>j1
  | y1 :: ys1,i1=>if (Oz y1 p_f_0) then
  (i1 : Int)
  else
  Gj p_f_0 j1 ys1 (i1 + 1)
def Gu (p_s : List Gn) (p_f_0 : Int) : Int :=
  Ib ((-1)) (fun j1 =>
  Gj p_f_0 j1 p_s 0)
def Gg (p_del_0 : Int) (j1 : (List Gn) → Int → Option (List Gn)) : Nat → (List Gn) → Int → Int → Option (List Gn)
  | 0,_,_,_=>none
  | m1 + 1,x1,x2,x3=>if decide (x3 < (x1.length : Int)) then
  Ib (fun (x4 : List Gn) (x5 : Int) =>
  Gg p_del_0 j1 m1 x4 x5 (W (x3 + 1))) (fun j2 =>
  Chk (inB x3 x1.length) (
  Ib (fun (x6 : List Gn) (x7 : Int) =>
  j2 x6 x7) (fun j3 =>
  if !(Oz (Gn.mk ((nth x1 x3).Who) (Fb.mk (((nth x1 x3).From).Item) (((nth x1 x3).From).Heat) (((nth x1 x3).From).Time)) (Fb.mk (((nth x1 x3).To).Item) (((nth x1 x3).To).Heat) (((nth x1 x3).To).Time)) ((nth x1 x3).Long)) p_del_0) then
  Chk (inB x2 x1.length) (
  j3 (x1.set x2.toNat (Gn.mk ((nth x1 x3).Who) (Fb.mk (((nth x1 x3).From).Item) (((nth x1 x3).From).Heat) (((nth x1 x3).From).Time)) (Fb.mk (((nth x1 x3).To).Item) (((nth x1 x3).To).Heat) (((nth x1 x3).To).Time)) ((nth x1 x3).Long))) (W (x2 + 1)))
  else
  j3 x1 x2)))
  else
  j1 x1 x2
def Hz (p_s : List Gn) (p_del_0 : Int) : Option (List Gn) :=
  if decide ((Gu p_s p_del_0) = (-1)) then
  some p_s
  else
  Ib (fun (x1 : List Gn) (x2 : Int) =>
  Chk (Ql x2 (x1.length : Int) x1.length) (
  Chk (Ql 0 x2 (clr x1 x2 (x1.length : Int) (Gn.mk Ga (Fb.mk Ga 0 (Jj.mk 0 0)) (Fb.mk Ga 0 (Jj.mk 0 0)) 0)).length) (
  some (cut (clr x1 x2 (x1.length : Int) (Gn.mk Ga (Fb.mk Ga 0 (Jj.mk 0 0)) (Fb.mk Ga 0 (Jj.mk 0 0)) 0)) (0 : Int) x2)))) (fun j1 =>
  Gg p_del_0 j1 (((p_s.length : Int) - (W ((Gu p_s p_del_0) + 1))).toNat + 2) p_s (Gu p_s p_del_0) (W ((Gu p_s p_del_0) + 1)))
def Pe (p_items : List An) (p_l : List Ex) (p_from : Int) (p_need : Int) : Option (List Gn) :=
  Option.bind (Pd p_items p_l p_from) (fun r1 =>
  Option.bind (Hz r1 p_need) (fun r2 =>
  some r2))
def Kh (j1 : Int → Option Int) : List Fb → Nat → Int → Option Int
  | [],_,x1=>j1 x1
  | y1 :: ys1,i1,_=>Kh j1 ys1 (i1 + 1) y1.Time.To
def Qi (p_l : List An) (p_from : Int) : Option Int :=
  Option.bind (Ns p_l p_from) (fun r1 =>
  Ib (fun (x1 : Int) =>
  some x1) (fun j1 =>
  Kh j1 r1 0 p_from))
def It (p_have : List An) (self : (List An) → (List An) → (List Ex) → Int → Int → Int → (List ByteArray) → Option (Int × Int × (List ByteArray))) (p_a1 : List An) (p_a3 : List Ex) (p_a4 : Int) (j1 : Int → Int → (List ByteArray) → Option (Int × Int × (List ByteArray))) : List An → Nat → Int → Int → (List ByteArray) → Option (Int × Int × (List ByteArray))
  | [],_,x1,x2,x3=>j1 x1 x2 x3
  | y1 :: ys1,i1,x1,x2,x3=>Ib (fun (x4 : Int) (x5 : Int) (x6 : List ByteArray) =>
  It p_have self p_a1 p_a3 p_a4 j1 ys1 (i1 + 1) x4 x5 x6) (fun j2 =>
  Ib (fun (x7 : Int) (x8 : Int) (x9 : List ByteArray) =>
  j2 x7 x8 x9) (fun j3 =>
  if decide ((Gl p_have y1.Key) < 0) then
  Ib (fun (x10 : Int) (x11 : Int) (x12 : List ByteArray) =>
  j3 x10 x11 x12) (fun j4 =>
  Option.bind (Lg p_have) (fun r1 =>
  Chk (Pa r1.length) (
  Option.bind (self (r1 ++ [y1]) p_a1 p_a3 p_a4 x1 x2 x3) (fun r2 =>
  j4 r2.1 r2.2.1 r2.2.2))))
  else
  j3 x1 x2 x3))
def Ia (j5 : (List ByteArray) → Option (Int × Int × (List ByteArray))) : List An → Nat → (List ByteArray) → Option (Int × Int × (List ByteArray))
  | [],_,x13=>j5 x13
  | y2 :: ys2,i2,x13=>Chk (Pa x13.length) (
  Ia j5 ys2 (i2 + 1) (x13 ++ [y2.Key]))
def Ob (self : (List An) → (List An) → (List Ex) → Int → Int → Int → (List ByteArray) → Option (Int × Int × (List ByteArray))) (p_have : List An) (p_a1 : List An) (p_a3 : List Ex) (p_a4 : Int) (p_a5 : Int) (p_a6 : Int) (p_a7 : List ByteArray) : Option (Int × Int × (List ByteArray)) :=
  if decide ((p_have.length : Int) < (p_a1.length : Int)) then
  Ib (fun (x1 : Int) (x2 : Int) (x3 : List ByteArray) =>
  some (x1,x2,x3)) (fun j1 =>
  It p_have self p_a1 p_a3 p_a4 j1 p_a1 0 p_a5 p_a6 p_a7)
  else
  Ib (fun (x13 : List ByteArray) =>
  Option.bind (Pe p_have p_a3 0 p_a4) (fun r3 =>
  Option.bind (Qi p_have 0) (fun r4 =>
  Ib (fun (c1 : Bool) =>
  Ib (fun (x14 : Int) (x15 : Int) (x16 : List ByteArray) =>
  some (x14,x15,x16)) (fun j10 =>
  if c1 then
  j10 (r3.length : Int) r4 x13
  else
  j10 p_a5 p_a6 p_a7)) (fun j6 =>
  if ((decide (p_a5 < 0)) || (decide ((r3.length : Int) < p_a5))) then j6 (((decide (p_a5 < 0)) || (decide ((r3.length : Int) < p_a5))) || true) else Ib (fun (c2 : Bool) =>
  j6 (((decide (p_a5 < 0)) || (decide ((r3.length : Int) < p_a5))) || c2)) (fun j7 =>
  if (decide ((r3.length : Int) = p_a5)) then Ib (fun (c3 : Bool) =>
  j7 ((decide ((r3.length : Int) = p_a5)) && c3)) (fun j8 =>
  if (decide (r4 < p_a6)) then j8 ((decide (r4 < p_a6)) || true) else Ib (fun (c4 : Bool) =>
  j8 ((decide (r4 < p_a6)) || c4)) (fun j9 =>
  if (decide (r4 = p_a6)) then Option.bind (Kc x13 p_a7) (fun r5 =>
  j9 ((decide (r4 = p_a6)) && (decide (r5 < 0)))) else j9 ((decide (r4 = p_a6)) && true))) else j7 ((decide ((r3.length : Int) = p_a5)) && true)))))) (fun j5 =>
  Ia j5 p_have 0 ([] : List ByteArray))
def Jh : Nat → (List An) → (List An) → (List Ex) → Int → Int → Int → (List ByteArray) → Option (Int × Int × (List ByteArray))
  | 0,_,_,_,_,_,_,_=>none
  | m + 1,p_have,p_a1,p_a3,p_a4,p_a5,p_a6,p_a7=>Ob (Jh m) p_have p_a1 p_a3 p_a4 p_a5 p_a6 p_a7
def Lo (p_items : List An) (p_l : List Ex) (p_need : Int) : Option ((List ByteArray) × Int) :=
  Option.bind (Jh 16 ([] : List An) p_items p_l p_need (-1) 0 ([] : List ByteArray)) (fun r1 =>
  some (r1.2.2,r1.1))
def Jl (p_s2 : List ByteArray) (j1 : Option Bool) : List ByteArray → Nat → Option Bool
  | [],_=>j1
  | y1 :: ys1,i1=>Chk (inB (i1 : Int) p_s2.length) (
  if !decide (y1 = (nth p_s2 (i1 : Int))) then
  some false
  else
  Jl p_s2 j1 ys1 (i1 + 1))
def Ni (p_s1 : List ByteArray) (p_s2 : List ByteArray) : Option Bool :=
  if !decide ((p_s1.length : Int) = (p_s2.length : Int)) then
  some false
  else
  Ib (some true) (fun j1 =>
  Jl p_s2 j1 p_s1 0)
def Kp (p_n : Int) (j1 : (List Int) → Option ((List Int) × Int)) : Nat → (List Int) → Int → Option ((List Int) × Int)
  | 0,_,_=>none
  | m1 + 1,x1,x2=>if decide (x2 < p_n) then
  Chk (Pa x1.length) (
  Kp p_n j1 m1 (x1 ++ [x2]) (W (x2 + 1)))
  else
  j1 x1
def Kq (p_s_L : List Int) (j2 : (List Int) → Int → Option ((List Int) × Int)) : Nat → (List Int) → Int → Int → Option ((List Int) × Int)
  | 0,_,_,_=>none
  | m2 + 1,x3,x4,x5=>if decide (0 < x5) then
  Option.bind (Mc p_s_L x4 (W (x5 + 1))) (fun r1 =>
  Chk (inB r1.1 x3.length) (
  Chk (inB x5 x3.length) (
  Chk (inB x5 x3.length) (
  Chk (inB r1.1 (x3.set x5.toNat (nth x3 r1.1)).length) (
  Kq p_s_L j2 m2 ((x3.set x5.toNat (nth x3 r1.1)).set r1.1.toNat (nth x3 x5)) r1.2 (W (x5 - 1)))))))
  else
  j2 x3 x4
def Rv (p_s_L : List Int) (p_s_at : Int) (p_n : Int) : Option ((List Int) × Int) :=
  Ib (fun (x1 : List Int) =>
  Ib (fun (x3 : List Int) (x4 : Int) =>
  some (x3,x4)) (fun j2 =>
  Kq p_s_L j2 (((W (p_n - 1)) - 0).toNat + 2) x1 p_s_at (W (p_n - 1)))) (fun j1 =>
  Kp p_n j1 ((p_n - 0).toNat + 2) ([] : List Int) 0)
def Jz (p_v : ByteArray) (j1 : Int) : List ByteArray → Nat → Int
  | [],_=>j1
  | y1 :: ys1,i1=>if decide (p_v = y1) then
  (i1 : Int)
  else
  Jz p_v j1 ys1 (i1 + 1)
def Qr (p_s : List ByteArray) (p_v : ByteArray) : Int :=
  Ib ((-1)) (fun j1 =>
  Jz p_v j1 p_s 0)
def Ma (p_s : List ByteArray) (p_v : ByteArray) : Bool :=
  decide (0 ≤ (Qr p_s p_v))
def Jo (p_items : List An) (p_order : List ByteArray) (j1 : (List An) → Option ((List An) × Int)) : List ByteArray → Nat → (List An) → Option ((List An) × Int)
  | [],_,x1=>j1 x1
  | y1 :: ys1,i1,x1=>if decide ((Ez p_items y1) < 0) then
  some (([] : List An),8)
  else
  Chk (Ql 0 (i1 : Int) p_order.length) (
  if (Ma (cut p_order 0 (i1 : Int)) y1) then
  some (([] : List An),6)
  else
  Chk (inB (Ez p_items y1) p_items.length) (
  Chk (Pa x1.length) (
  Jo p_items p_order j1 ys1 (i1 + 1) (x1 ++ [(nth p_items (Ez p_items y1))]))))
def Mm (p_items : List An) (p_order : List ByteArray) : Option ((List An) × Int) :=
  Option.bind (Jq p_items) (fun r1 =>
  if !decide (r1 = 0) then
  some (([] : List An),r1)
  else
  if !decide ((p_order.length : Int) = (p_items.length : Int)) then
  some (([] : List An),3)
  else
  Ib (fun (x1 : List An) =>
  some (x1,0)) (fun j1 =>
  Jo p_items p_order j1 p_order 0 ([] : List An)))
def Iu (p_items : List An) (p_order : List ByteArray) (j1 : (List An) → Option ((List An) × Int)) : List ByteArray → Nat → (List An) → Option ((List An) × Int)
  | [],_,x1=>j1 x1
  | y1 :: ys1,i1,x1=>if decide ((Gl p_items y1) < 0) then
  some (([] : List An),8)
  else
  Chk (Ql 0 (i1 : Int) p_order.length) (
  if (Ma (cut p_order 0 (i1 : Int)) y1) then
  some (([] : List An),6)
  else
  Chk (inB (Gl p_items y1) p_items.length) (
  Chk (Pa x1.length) (
  Iu p_items p_order j1 ys1 (i1 + 1) (x1 ++ [(nth p_items (Gl p_items y1))]))))
def Ks (p_items : List An) (p_order : List ByteArray) : Option ((List An) × Int) :=
  if !decide ((p_order.length : Int) = (p_items.length : Int)) then
  some (([] : List An),3)
  else
  Ib (fun (x1 : List An) =>
  some (x1,0)) (fun j1 =>
  Iu p_items p_order j1 p_order 0 ([] : List An))
def Ka (p_s2 : List An) (j1 : Option Bool) : List An → Nat → Option Bool
  | [],_=>j1
  | y1 :: ys1,i1=>Chk (inB (i1 : Int) p_s2.length) (
  if !decide (y1 = (nth p_s2 (i1 : Int))) then
  some false
  else
  Ka p_s2 j1 ys1 (i1 + 1))
def My (p_s1 : List An) (p_s2 : List An) : Option Bool :=
  if !decide ((p_s1.length : Int) = (p_s2.length : Int)) then
  some false
  else
  Ib (some true) (fun j1 =>
  Ka p_s2 j1 p_s1 0)
def Rw (p_n : Int) : Bool :=
  ((decide (0 ≤ p_n)) && (decide (p_n < 345686400000)))
def Qx (p_l : List An) (p_from : Int) : Option ((List Fb) × Int) :=
  if !(Rw p_from) then
  some (([] : List Fb),1)
  else
  Option.bind (Mx p_l p_from) (fun r1 =>
  Option.bind (Qh r1 p_from) (fun r2 =>
  if decide (345686400000 < r2) then
  some (([] : List Fb),1)
  else
  some (r1,0)))
def Rx (p_l : List An) (p_from : Int) : Option ((List Fb) × Int) :=
  Option.bind (Jq p_l) (fun r1 =>
  if !decide (r1 = 0) then
  some (([] : List Fb),r1)
  else
  Option.bind (Qx p_l p_from) (fun r2 =>
  some (r2.1,r2.2)))
def Vd (p_l : List An) (p_from : Int) : Option (Int × Int) :=
  Option.bind (Rx p_l p_from) (fun r1 =>
  if !decide (r1.2 = 0) then
  some (0,r1.2)
  else
  Option.bind (Qh r1.1 p_from) (fun r2 =>
  some (r2,0)))
def Qj : Option Bool :=
  Option.bind (Vd [(An.mk k_a 2 10 5 0)] 0) (fun r1 =>
  some ((decide (r1.2 = 0)) && (decide (r1.1 = 25))))
def Hj (r1 : (List An) × Int) (j3 : (List ByteArray) → Option Bool) : List Int → Nat → (List ByteArray) → Option Bool
  | [],_,x3=>j3 x3
  | y1 :: ys1,i1,x3=>Chk (inB y1 r1.1.length) (
  Chk (Pa x3.length) (
  Hj r1 j3 ys1 (i1 + 1) (x3 ++ [(nth r1.1 y1).Key])))
def Mn (p_l : List Int) : Option Bool :=
  Option.bind (Rr p_l 0 4) (fun r1 =>
  Option.bind (Mr p_l r1.2 [0,50,100,200,(-1),3600001]) (fun r2 =>
  Option.bind (Rs p_l r2.2 r1.1) (fun r3 =>
  Option.bind (Np r1.1 r3.1 r2.1) (fun r4 =>
  Option.bind (Le r1.1 r3.1 r2.1) (fun r5 =>
  Ib (fun (x1 : List ByteArray) (x2 : Int) =>
  Ib (fun (c1 : Bool) =>
  if (c1 || (!decide (r4.2.1 = x2))) then
  some false
  else
  Option.bind (Rv p_l r3.2 (r1.1.length : Int)) (fun r8 =>
  Ib (fun (x3 : List ByteArray) =>
  Option.bind (Mq p_l r8.2 6) (fun r9 =>
  Ib (fun (x4 : List ByteArray) =>
  Option.bind (Mm r1.1 x4) (fun r12 =>
  Option.bind (Kr r1.1) (fun r13 =>
  Ib (fun (x5 : Int) (x6 : List An) =>
  Ib (fun (c2 : Bool) =>
  Ib (fun (c3 : Bool) =>
  some c3) (fun j7 =>
  if c2 then Option.bind (Qj) (fun r16 =>
  j7 (c2 && r16)) else j7 (c2 && true))) (fun j6 =>
  if (decide (r12.2 = x5)) then Option.bind (My r12.1 x6) (fun r15 =>
  j6 ((decide (r12.2 = x5)) && r15)) else j6 ((decide (r12.2 = x5)) && true))) (fun j5 =>
  if decide (r13 = 0) then
  Option.bind (Ks r1.1 x4) (fun r14 =>
  j5 r14.2 r14.1)
  else
  j5 r13 ([] : List An))))) (fun j4 =>
  if r9.1 then
  Option.bind (Pn p_l r9.2 [Sk,Ua]) (fun r10 =>
  Chk (Pa x3.length) (
  Option.bind (Oh p_l r10.2 0 1) (fun r11 =>
  Chk (Ql (Zg 1 r11.1) ((x3 ++ [r10.1]).length : Int) (x3 ++ [r10.1]).length) (
  j4 (cut (x3 ++ [r10.1]) (Zg 1 r11.1) (x3 ++ [r10.1]).length)))))
  else
  j4 x3))) (fun j3 =>
  Hj r1 j3 r8.1 0 ([] : List ByteArray)))) (fun j2 =>
  if (!decide (r4.2.2 = r5)) then j2 ((!decide (r4.2.2 = r5)) || true) else Option.bind (Ni r4.1 x1) (fun r7 =>
  j2 ((!decide (r4.2.2 = r5)) || (!r7))))) (fun j1 =>
  if decide (r5 = 0) then
  Option.bind (Lo r1.1 r3.1 r2.1) (fun r6 =>
  j1 r6.1 r6.2)
  else
  j1 ([] : List ByteArray) 0))))))
theorem twin_eqs : True:=by
  have h:=@Jm.eq_def; clear h; have h:=@Jm.eq_1; clear h; have h:=@Jm.eq_2; clear h
  have h:=@Fm.eq_def; clear h; have h:=@Fm.eq_1; clear h; have h:=@Fm.eq_2; clear h
  have h:=@Fu.eq_def; clear h; have h:=@Fu.eq_1; clear h; have h:=@Fu.eq_2; clear h
  have h:=@Ge.eq_def; clear h; have h:=@Ge.eq_1; clear h; have h:=@Ge.eq_2; clear h
  have h:=@Jn.eq_def; clear h; have h:=@Jn.eq_1; clear h; have h:=@Jn.eq_2; clear h
  have h:=@Iw.eq_def; clear h; have h:=@Iw.eq_1; clear h; have h:=@Iw.eq_2; clear h
  have h:=@Hw.eq_def; clear h; have h:=@Hw.eq_1; clear h; have h:=@Hw.eq_2; clear h
  have h:=@Gc.eq_def; clear h; have h:=@Gc.eq_1; clear h; have h:=@Gc.eq_2; clear h
  have h:=@Lt.eq_def; clear h; have h:=@Lt.eq_1; clear h; have h:=@Lt.eq_2; clear h
  have h:=@Ho.eq_def; clear h; have h:=@Ho.eq_1; clear h; have h:=@Ho.eq_2; clear h
  have h:=@Ix.eq_def; clear h; have h:=@Ix.eq_1; clear h; have h:=@Ix.eq_2; clear h
  have h:=@Iy.eq_def; clear h; have h:=@Iy.eq_1; clear h; have h:=@Iy.eq_2; clear h
  have h:=@Fp.eq_def; clear h; have h:=@Fp.eq_1; clear h; have h:=@Fp.eq_2; clear h
  have h:=@Fx.eq_def; clear h; have h:=@Fx.eq_1; clear h; have h:=@Fx.eq_2; clear h
  have h:=@Gs.eq_def; clear h; have h:=@Gs.eq_1; clear h; have h:=@Gs.eq_2; clear h
  have h:=@Gz.eq_def; clear h; have h:=@Gz.eq_1; clear h; have h:=@Gz.eq_2; clear h
  have h:=@Iz.eq_def; clear h; have h:=@Iz.eq_1; clear h; have h:=@Iz.eq_2; clear h
  have h:=@Ja.eq_def; clear h; have h:=@Ja.eq_1; clear h; have h:=@Ja.eq_2; clear h
  have h:=@Lu.eq_def; clear h; have h:=@Lu.eq_1; clear h; have h:=@Lu.eq_2; clear h
  have h:=@Lv.eq_def; clear h; have h:=@Lv.eq_1; clear h; have h:=@Lv.eq_2; clear h
  have h:=@Lw.eq_def; clear h; have h:=@Lw.eq_1; clear h; have h:=@Lw.eq_2; clear h
  have h:=@Lx.eq_def; clear h; have h:=@Lx.eq_1; clear h; have h:=@Lx.eq_2; clear h
  have h:=@Kf.eq_def; clear h; have h:=@Kf.eq_1; clear h; have h:=@Kf.eq_2; clear h
  have h:=@Jx.eq_def; clear h; have h:=@Jx.eq_1; clear h; have h:=@Jx.eq_2; clear h
  have h:=@Kg.eq_def; clear h; have h:=@Kg.eq_1; clear h; have h:=@Kg.eq_2; clear h
  have h:=@Ft.eq_def; clear h; have h:=@Ft.eq_1; clear h; have h:=@Ft.eq_2; clear h
  have h:=@Ip.eq_def; clear h; have h:=@Ip.eq_1; clear h; have h:=@Ip.eq_2; clear h
  have h:=@Hf.eq_def; clear h; have h:=@Hf.eq_1; clear h; have h:=@Hf.eq_2; clear h
  have h:=@Hy.eq_def; clear h; have h:=@Hy.eq_1; clear h; have h:=@Hy.eq_2; clear h
  have h:=@Iq.eq_def; clear h; have h:=@Iq.eq_1; clear h; have h:=@Iq.eq_2; clear h
  have h:=@Ir.eq_def; clear h; have h:=@Ir.eq_1; clear h; have h:=@Ir.eq_2; clear h
  have h:=@Hp.eq_def; clear h; have h:=@Hp.eq_1; clear h; have h:=@Hp.eq_2; clear h
  have h:=@Io.eq_def; clear h; have h:=@Io.eq_1; clear h; have h:=@Io.eq_2; clear h
  have h:=@Jg.eq_def; clear h; have h:=@Jg.eq_1; clear h; have h:=@Jg.eq_2; clear h
  have h:=@Jy.eq_def; clear h; have h:=@Jy.eq_1; clear h; have h:=@Jy.eq_2; clear h
  have h:=@Gi.eq_def; clear h; have h:=@Gi.eq_1; clear h; have h:=@Gi.eq_2; clear h
  have h:=@Gf.eq_def; clear h; have h:=@Gf.eq_1; clear h; have h:=@Gf.eq_2; clear h
  have h:=@Jt.eq_def; clear h; have h:=@Jt.eq_1; clear h; have h:=@Jt.eq_2; clear h
  have h:=@Kd.eq_def; clear h; have h:=@Kd.eq_1; clear h; have h:=@Kd.eq_2; clear h
  have h:=@Ht.eq_def; clear h; have h:=@Ht.eq_1; clear h; have h:=@Ht.eq_2; clear h
  have h:=@Gj.eq_def; clear h; have h:=@Gj.eq_1; clear h; have h:=@Gj.eq_2; clear h
  have h:=@Gg.eq_def; clear h; have h:=@Gg.eq_1; clear h; have h:=@Gg.eq_2; clear h
  have h:=@Kh.eq_def; clear h; have h:=@Kh.eq_1; clear h; have h:=@Kh.eq_2; clear h
  have h:=@It.eq_def; clear h; have h:=@It.eq_1; clear h; have h:=@It.eq_2; clear h
  have h:=@Ia.eq_def; clear h; have h:=@Ia.eq_1; clear h; have h:=@Ia.eq_2; clear h
  have h:=@Jl.eq_def; clear h; have h:=@Jl.eq_1; clear h; have h:=@Jl.eq_2; clear h
  have h:=@Kp.eq_def; clear h; have h:=@Kp.eq_1; clear h; have h:=@Kp.eq_2; clear h
  have h:=@Kq.eq_def; clear h; have h:=@Kq.eq_1; clear h; have h:=@Kq.eq_2; clear h
  have h:=@Jz.eq_def; clear h; have h:=@Jz.eq_1; clear h; have h:=@Jz.eq_2; clear h
  have h:=@Jo.eq_def; clear h; have h:=@Jo.eq_1; clear h; have h:=@Jo.eq_2; clear h
  have h:=@Iu.eq_def; clear h; have h:=@Iu.eq_1; clear h; have h:=@Iu.eq_2; clear h
  have h:=@Ka.eq_def; clear h; have h:=@Ka.eq_1; clear h; have h:=@Ka.eq_2; clear h
  have h:=@Hj.eq_def; clear h; have h:=@Hj.eq_1; clear h; have h:=@Hj.eq_2; clear h
  have h:=@Nv.eq_def; clear h; have h:=@Nv.eq_1; clear h; have h:=@Nv.eq_2; clear h
  have h:=@Jh.eq_def; clear h; have h:=@Jh.eq_1; clear h; have h:=@Jh.eq_2; clear h
  trivial
end Go.Proofs.YtlndicofaomdaaaGreatDoor
