/- The Go functions as plain Lean functions,by program. -/
import Derived.Test.YtombbefepcipcaaGreatDoorBase
namespace Go.Proofs.YtombbefepcipcaaGreatDoor
open Go
structure HT where
  L : List Int
  at_ : Int
  deriving DecidableEq,Inhabited
structure An where
  Key : ByteArray
  Heats : Int
  Long : Int
  Gap : Int
  Break : Int
  deriving DecidableEq,Inhabited
structure Eh where
  Who : ByteArray
  Item : ByteArray
  Heat : Int
  deriving DecidableEq,Inhabited
structure Gt where
  From : Int
  To : Int
  deriving DecidableEq,Inhabited
structure Dx where
  Item : ByteArray
  Heat : Int
  Time : Gt
  deriving DecidableEq,Inhabited
structure Dw where
  first_ : Int
  last_ : Int
  deriving DecidableEq,Inhabited
structure Eu where
  Who : ByteArray
  From : Dx
  To : Dx
  Long : Int
  deriving DecidableEq,Inhabited
structure Ed where
  item_ : ByteArray
  heat_ : Int
  deriving DecidableEq,Inhabited
structure Jj where
  Year : Int
  Month : Int
  Day : Int
  deriving DecidableEq,Inhabited
structure Mq where
  Race : ByteArray
  Time : Int
  deriving DecidableEq,Inhabited
structure Pc where
  Key : ByteArray
  Race : ByteArray
  Clubs : List ByteArray
  Young : Int
  Old : Int
  deriving DecidableEq,Inhabited
structure Hz where
  At : Int
  Kind : Int
  Id : ByteArray
  Who : ByteArray
  Club : ByteArray
  Race : ByteArray
  Age : Int
  Time : Int
  deriving DecidableEq,Inhabited
def Eo : ByteArray:=⟨#[]⟩
def Tv : ByteArray:=⟨#[105,99]⟩
def Tw : ByteArray:=⟨#[105,97]⟩
def Tx : ByteArray:=⟨#[105,100]⟩
def Ty : ByteArray:=⟨#[105,98]⟩
def Vn : ByteArray:=⟨#[105,101]⟩
def Oc : ByteArray:=⟨#[97,110,110]⟩
def Od : ByteArray:=⟨#[98,101,97]⟩
def Oe : ByteArray:=⟨#[99,105,100]⟩
def Lj : ByteArray:=⟨#[0,1,2,2,3,3,3,3,4,4,4,4,4,4,4,4,5,5,5,5,5,5,5,5,5,5,5,5,5,5,5,5,6,6,6,6,6,6,6,6,6,6,6,6,6,6,6,6,6,6,6,6,6,6,6,6,6,6,6,6,6,6,6,6,7,7,7,7,7,7,7,7,7,7,7,7,7,7,7,7,7,7,7,7,7,7,7,7,7,7,7,7,7,7,7,7,7,7,7,7,7,7,7,7,7,7,7,7,7,7,7,7,7,7,7,7,7,7,7,7,7,7,7,7,7,7,7,7,8,8,8,8,8,8,8,8,8,8,8,8,8,8,8,8,8,8,8,8,8,8,8,8,8,8,8,8,8,8,8,8,8,8,8,8,8,8,8,8,8,8,8,8,8,8,8,8,8,8,8,8,8,8,8,8,8,8,8,8,8,8,8,8,8,8,8,8,8,8,8,8,8,8,8,8,8,8,8,8,8,8,8,8,8,8,8,8,8,8,8,8,8,8,8,8,8,8,8,8,8,8,8,8,8,8,8,8,8,8,8,8,8,8,8,8,8,8,8,8,8,8,8,8,8,8,8,8]⟩
def My : ByteArray:=⟨#[97,98,99,100,101,102,103,104,105,106,107,108,109,110,111,112,113,114,115,116,117,118,119,120,121,122,48,49,50,51,52,53,54,55,56,57,45,95]⟩
def k_a : ByteArray:=⟨#[97]⟩
def k_r : ByteArray:=⟨#[114]⟩
def k_k : ByteArray:=⟨#[107]⟩
def k_i : ByteArray:=⟨#[105]⟩
def Lw (p_x : Int) (p_n : Int) : Option Int :=
  if decide (p_n < 1) then
  some 0
  else
  Chk (!decide (p_n = 0)) (
  Hq (fun (x1 : Int) =>
  some x1) (fun j1 =>
  if decide ((Int.tmod p_x p_n) < 0) then
  j1 (W ((Int.tmod p_x p_n) + p_n))
  else
  j1 (Int.tmod p_x p_n)))
def Mc (p_s_L : List Int) (p_s_at : Int) (p_n : Int) : Option (Int × Int) :=
  if decide ((p_s_L.length : Int) = 0) then
  Option.bind (Lw (W ((W (p_s_at + 1)) * 7919)) p_n) (fun r1 =>
  some (r1,W (p_s_at + 1)))
  else
  Chk (!decide ((p_s_L.length : Int) = 0)) (
  Chk (!decide ((p_s_L.length : Int) = 0)) (
  Chk (inB (Int.tmod (W ((W (p_s_at + 1)) - 1)) (p_s_L.length : Int)) p_s_L.length) (
  Option.bind (Lw (nth p_s_L (Int.tmod (W ((W (p_s_at + 1)) - 1)) (p_s_L.length : Int))) 1073741824) (fun r2 =>
  Option.bind (Lw (W (r2 + (W ((W (Int.tdiv (W ((W (p_s_at + 1)) - 1)) (p_s_L.length : Int))) * (W (7919 + (Int.tmod (W ((W (p_s_at + 1)) - 1)) (p_s_L.length : Int)))))))) p_n) (fun r3 =>
  some (r3,W (p_s_at + 1)))))))
def Of (p_s_L : List Int) (p_s_at : Int) (p_n : Int) : Option (Bool × Int) :=
  Option.bind (Mc p_s_L p_s_at p_n) (fun r1 =>
  some (decide (r1.1 = 0),r1.2))
def Md (p_s_L : List Int) (p_s_at : Int) (p_l : List Int) : Option (Int × Int) :=
  Option.bind (Mc p_s_L p_s_at (p_l.length : Int)) (fun r1 =>
  Chk (inB r1.1 p_l.length) (
  some ((nth p_l r1.1),r1.2)))
def Ht (p_s_L : List Int) (j1 : (List An) → Int → Option ((List An) × Int)) : List ByteArray → Nat → (List An) → Int → Option ((List An) × Int)
  | [],_,x1,x2=>j1 x1 x2
  | y1 :: ys1,i1,x1,x2=>Hq (fun (x3 : List An) (x4 : Int) =>
  Ht p_s_L j1 ys1 (i1 + 1) x3 x4) (fun j2 =>
  Option.bind (Of p_s_L x2 6) (fun r1 =>
  Hq (fun (x5 : List An) (x6 : Int) =>
  j2 x5 x6) (fun j3 =>
  if !r1.1 then
  Option.bind (Md p_s_L r1.2 [1,1,2,3]) (fun r2 =>
  Option.bind (Md p_s_L r2.2 [50,100]) (fun r3 =>
  Option.bind (Md p_s_L r3.2 [0,10,60]) (fun r4 =>
  Option.bind (Md p_s_L r4.2 [0,20,50,200]) (fun r5 =>
  Chk (Pj x1.length) (
  j3 (x1 ++ [(An.mk y1 r2.1 r3.1 r4.1 r5.1)]) r5.2)))))
  else
  j3 x1 r1.2)))
def Me (p_s_L : List Int) (p_s_at : Int) (p_most : Int) : Option ((List An) × Int) :=
  Chk (Tl 0 p_most ([Tv,Tw,Tx,Ty,Vn] : List ByteArray).length) (
  Hq (fun (x1 : List An) (x2 : Int) =>
  some (x1,x2)) (fun j1 =>
  Ht p_s_L j1 (cut ([Tv,Tw,Tx,Ty,Vn] : List ByteArray) 0 p_most) 0 ([] : List An) p_s_at))
def Lb (p_s : List An) : Option (List An) :=
  Chk (decide ((([] : List An) : List An).length + p_s.length < 1073741824)) (
  some ((([] : List An) : List An) ++ p_s))
def Vo (p_x : Int) : Option Int :=
  Hq (fun (x1 : Int) (x2 : Int) =>
  Hq (fun (x3 : Int) (x4 : Int) =>
  Chk (inB (IntKind.wrap .u8 x3) Lj.size) (
  some (W (x4 + (W (Yy Lj (IntKind.wrap .u8 x3))))))) (fun j2 =>
  if decide (256 ≤ x1) then
  j2 (Fl .u32 x1 8) (W (x2 + 8))
  else
  j2 x1 x2)) (fun j1 =>
  if decide (65536 ≤ p_x) then
  j1 (Fl .u32 p_x 16) 16
  else
  j1 p_x 0)
def Sz (p_x : Int) : Option Int :=
  Hq (fun (x1 : Int) (x2 : Int) =>
  Hq (fun (x3 : Int) (x4 : Int) =>
  Hq (fun (x5 : Int) (x6 : Int) =>
  Chk (inB (IntKind.wrap .u8 x5) Lj.size) (
  some (W (x6 + (W (Yy Lj (IntKind.wrap .u8 x5))))))) (fun j3 =>
  if decide (256 ≤ x3) then
  j3 (Fl .u64 x3 8) (W (x4 + 8))
  else
  j3 x3 x4)) (fun j2 =>
  if decide (65536 ≤ x1) then
  j2 (Fl .u64 x1 16) (W (x2 + 16))
  else
  j2 x1 x2)) (fun j1 =>
  if decide (4294967296 ≤ p_x) then
  j1 (Fl .u64 p_x 32) 32
  else
  j1 p_x 0)
def Rq (p_x : Int) : Option Int :=
  if false then
  Option.bind (Vo (IntKind.wrap .u32 p_x)) (fun r1 =>
  some r1)
  else
  Option.bind (Sz p_x) (fun r2 =>
  some r2)
def Ih (p_a : An) (p_b : An) : Int :=
  if Vc p_a.Key p_b.Key then
  (-1)
  else
  1
def Ek (p_a : Int) (j2 : (List An) → Option (List An)) : Nat → (List An) → Int → Option (List An)
  | 0,_,_=>none
  | m2 + 1,x3,x4=>Hq (fun (x5 : Bool) =>
  if x5 then
  Chk (inB (W (x4 - 1)) x3.length) (
  Chk (inB x4 x3.length) (
  Chk (inB x4 x3.length) (
  Chk (inB (W (x4 - 1)) (x3.set x4.toNat (nth x3 (W (x4 - 1)))).length) (
  Ek p_a j2 m2 ((x3.set x4.toNat (nth x3 (W (x4 - 1)))).set ((W (x4 - 1)).toNat) (nth x3 x4)) (W (x4 - 1))))))
  else
  j2 x3) (fun j3 =>
  if decide (p_a < x4) then
  Chk (inB x4 x3.length) (
  Chk (inB (W (x4 - 1)) x3.length) (
  j3 (decide ((Ih (nth x3 x4) (nth x3 (W (x4 - 1)))) < 0))))
  else
  j3 false)
def Ep (p_b : Int) (p_a : Int) (j1 : (List An) → Option (List An)) : Nat → (List An) → Int → Option (List An)
  | 0,_,_=>none
  | m1 + 1,x1,x2=>if decide (x2 < p_b) then
  Hq (fun (x3 : List An) =>
  Ep p_b p_a j1 m1 x3 (W (x2 + 1))) (fun j2 =>
  Ek p_a j2 ((x2 - p_a).toNat + 2) x1 x2)
  else
  j1 x1
def Gd (p_data : List An) (p_a : Int) (p_b : Int) : Option (List An) :=
  Hq (fun (x1 : List An) =>
  some x1) (fun j1 =>
  Ep p_b p_a j1 ((p_b - (W (p_a + 1))).toNat + 2) p_data (W (p_a + 1)))
def Ey (p_data : List An) : Nat → Int → Int → Int → Bool → Option (List An)
  | 0,_,_,_,_=>none
  | _ + 1,x1,x2,x3,x4=>if decide ((W (x2 - x1)) ≤ 12) then
  Option.bind (Gd p_data x1 x2) (fun r1 =>
  some r1)
  else
  if decide (x3 = 0) then
  none
  else
  if !x4 then
  none
  else
  none
def Hb (p_data : List An) (p_a : Int) (p_b : Int) (p_limit : Int) : Option (List An) :=
  Ey p_data 4611686018427387904 p_a p_b p_limit true
def Gx (p_x : List An) : Option (List An) :=
  Option.bind (Rq (IntKind.wrap .u64 (p_x.length : Int))) (fun r1 =>
  Option.bind (Hb p_x 0 (p_x.length : Int) r1) (fun r2 =>
  some r2))
def On (p_s_L : List Int) (p_s_at : Int) (p_low : Int) (p_high : Int) : Option (Int × Int) :=
  if decide (p_high < p_low) then
  some (p_low,p_s_at)
  else
  Option.bind (Mc p_s_L p_s_at (W ((W (p_high - p_low)) + 1))) (fun r1 =>
  some (W (p_low + r1.1),r1.2))
def Hu (p_s_L : List Int) (y1 : ByteArray) (j2 : (List Eh) → Int → Option ((List Eh) × Int)) : List An → Nat → (List Eh) → Int → Option ((List Eh) × Int)
  | [],_,x3,x4=>j2 x3 x4
  | y2 :: ys2,i2,x3,x4=>Hq (fun (x5 : List Eh) (x6 : Int) =>
  Hu p_s_L y1 j2 ys2 (i2 + 1) x5 x6) (fun j3 =>
  Option.bind (Of p_s_L x4 2) (fun r3 =>
  Hq (fun (x7 : List Eh) (x8 : Int) =>
  j3 x7 x8) (fun j4 =>
  if (r3.1 && (decide (0 < y2.Heats))) then
  Option.bind (On p_s_L r3.2 1 (DL y2.Heats 3)) (fun r4 =>
  Chk (Pj x3.length) (
  j4 (x3 ++ [(Eh.mk y1 y2.Key r4.1)]) r4.2))
  else
  j4 x3 r3.2)))
def Hd (p_items : List An) (p_s_L : List Int) (j1 : (List Eh) → Int → Option ((List Eh) × Int)) : List ByteArray → Nat → (List Eh) → Int → Option ((List Eh) × Int)
  | [],_,x1,x2=>j1 x1 x2
  | y1 :: ys1,i1,x1,x2=>Option.bind (Lb p_items) (fun r1 =>
  Option.bind (Gx r1) (fun r2 =>
  Hq (fun (x3 : List Eh) (x4 : Int) =>
  Hd p_items p_s_L j1 ys1 (i1 + 1) x3 x4) (fun j2 =>
  Hu p_s_L y1 j2 r2 0 x1 x2)))
def Mf (p_s_L : List Int) (p_s_at : Int) (p_items : List An) : Option ((List Eh) × Int) :=
  Hq (fun (x1 : List Eh) (x2 : Int) =>
  some (x1,x2)) (fun j1 =>
  Hd p_items p_s_L j1 ([Oc,Od,Oe] : List ByteArray) 0 ([] : List Eh) p_s_at)
def Ta (s c : ByteArray) : Option ByteArray :=
  Chk (decide (s.size ≤ 9223372036854775807)) (Chk (decide (c.size < 4294967281)) (Chk (c.data.toList.all fun b=>decide (b.toNat < 128)) (some ⟨(Lib.trimS s.data.toList c.data.toList).toArray⟩)))
def Jh (p_s : ByteArray) : Option Bool :=
  Hq (fun (c1 : Bool) =>
  Hq (fun (c2 : Bool) =>
  Hq (fun (c3 : Bool) =>
  some c3) (fun j3 =>
  if c2 then Option.bind (Ta p_s My) (fun r1 =>
  j3 (c2 && (decide (r1 = Eo)))) else j3 (c2 && true))) (fun j2 =>
  if c1 then Chk (inB 0 p_s.size) (
  j2 (c1 && (decide ((Yy p_s 0) ≤ 122)))) else j2 (c1 && true))) (fun j1 =>
  if ((decide (1 ≤ (p_s.size : Int))) && (decide ((p_s.size : Int) ≤ 40))) then Chk (inB 0 p_s.size) (
  j1 (((decide (1 ≤ (p_s.size : Int))) && (decide ((p_s.size : Int) ≤ 40))) && (decide (97 ≤ (Yy p_s 0))))) else j1 (((decide (1 ≤ (p_s.size : Int))) && (decide ((p_s.size : Int) ≤ 40))) && true))
def En (p_n : Int) (p_low : Int) (p_high : Int) : Bool :=
  ((decide (p_low ≤ p_n)) && (decide (p_n ≤ p_high)))
def Hl (j1 : (List (ByteArray × Bool)) → Option Int) : List An → Nat → (List (ByteArray × Bool)) → Option Int
  | [],_,x1=>j1 x1
  | y1 :: ys1,i1,x1=>Option.bind (Jh y1.Key) (fun r1 =>
  if !r1 then
  some 5
  else
  if Kw x1 y1.Key false then
  some 6
  else
  if ((((!(En y1.Heats 1 60)) || (!(En y1.Long 1 3600000))) || (!(En y1.Gap 0 3600000))) || (!(En y1.Break 0 3600000))) then
  some 1
  else
  Hl j1 ys1 (i1 + 1) (Po x1 y1.Key true))
def Iy (p_l : List An) : Option Int :=
  if decide (100 < (p_l.length : Int)) then
  some 2
  else
  Hq (fun (x1 : List (ByteArray × Bool)) =>
  some 0) (fun j1 =>
  Hl j1 p_l 0 ([] : List (ByteArray × Bool)))
def Nx (p_x : An) (p_a1 : ByteArray) : Bool :=
  decide (p_x.Key = p_a1)
def Ex (p_f_0 : ByteArray) (j1 : Int) : List An → Nat → Int
  | [],_=>j1
  | y1 :: ys1,i1=>if (Nx y1 p_f_0) then
  (i1 : Int)
  else
  Ex p_f_0 j1 ys1 (i1 + 1)
def Ia (p_s : List An) (p_f_0 : ByteArray) : Int :=
  Hq ((-1)) (fun j1 =>
  Ex p_f_0 j1 p_s 0)
def Ea (p_l : List An) (p_key : ByteArray) : Int :=
  (Ia p_l p_key)
def Hw (s t : ByteArray) : Int:=Lib.compareBytes s.data.toList t.data.toList
def Nn (p_x : Int) : Bool :=
  !decide (p_x = p_x)
def Ga (p_x : Int) (p_y : Int) : Int :=
  if (Nn p_x) then
  if (Nn p_y) then
  0
  else
  (-1)
  else
  if (Nn p_y) then
  1
  else
  if decide (p_x < p_y) then
  (-1)
  else
  if decide (p_y < p_x) then
  1
  else
  0
def Kg (j1 : Int) : List Int → Nat → Int
  | [],_=>j1
  | y1 :: ys1,i1=>if !decide (y1 = 0) then
  y1
  else
  Kg j1 ys1 (i1 + 1)
def Mk (p_vals : List Int) : Int :=
  Hq (0) (fun j1 =>
  Kg j1 p_vals 0)
def Jz (p_a : Eh) (p_b : Eh) : Int :=
  (Mk [(Hw p_a.Who p_b.Who),(Hw p_a.Item p_b.Item),(Ga p_a.Heat p_b.Heat)])
def Hm (p_items : List An) (p_l : List Eh) (j1 : Option Int) : List Eh → Nat → Option Int
  | [],_=>j1
  | y1 :: ys1,i1=>Option.bind (Jh y1.Who) (fun r2 =>
  if !r2 then
  some 5
  else
  if decide ((Ea p_items y1.Item) < 0) then
  some 8
  else
  Chk (inB (Ea p_items y1.Item) p_items.length) (
  if !(En y1.Heat 1 ((nth p_items (Ea p_items y1.Item)).Heats)) then
  some 1
  else
  Hq (fun (x1 : Bool) =>
  if x1 then
  some 7
  else
  Hm p_items p_l j1 ys1 (i1 + 1)) (fun j2 =>
  if decide (0 < (i1 : Int)) then
  Chk (inB (W ((i1 : Int) - 1)) p_l.length) (
  j2 (decide (0 ≤ (Jz (nth p_l (W ((i1 : Int) - 1))) y1))))
  else
  j2 false)))
def Iz (p_items : List An) (p_l : List Eh) : Option Int :=
  Option.bind (Iy p_items) (fun r1 =>
  if !decide (r1 = 0) then
  some r1
  else
  if decide (2000 < (p_l.length : Int)) then
  some 2
  else
  Hq (some 0) (fun j1 =>
  Hm p_items p_l j1 p_l 0))
def He (y1 : An) (j2 : (List Dx) → Int → Option (List Dx)) : Nat → (List Dx) → Int → Int → Option (List Dx)
  | 0,_,_,_=>none
  | m1 + 1,x3,x4,x5=>if decide (x5 ≤ y1.Heats) then
  Hq (fun (x6 : List Dx) (x7 : Int) =>
  He y1 j2 m1 x6 x7 (W (x5 + 1))) (fun j3 =>
  Chk (Pj x3.length) (
  Hq (fun (x8 : Int) =>
  j3 (x3 ++ [(Dx.mk y1.Key x5 (Gt.mk x4 (W (x4 + y1.Long))))]) x8) (fun j4 =>
  if decide (x5 < y1.Heats) then
  j4 (W ((W (x4 + y1.Long)) + y1.Gap))
  else
  j4 (W (x4 + y1.Long)))))
  else
  j2 x3 x4
def Hf (j1 : (List Dx) → Option (List Dx)) : List An → Nat → (List Dx) → Int → Option (List Dx)
  | [],_,x1,_=>j1 x1
  | y1 :: ys1,i1,x1,x2=>Hq (fun (x3 : List Dx) (x4 : Int) =>
  Hf j1 ys1 (i1 + 1) x3 (W (x4 + y1.Break))) (fun j2 =>
  He y1 j2 ((y1.Heats - 1).toNat + 2) x1 x2 1)
def Lc (p_l : List An) (p_from : Int) : Option (List Dx) :=
  Hq (fun (x1 : List Dx) =>
  some x1) (fun j1 =>
  Hf j1 p_l 0 ([] : List Dx) p_from)
def Og (p_l : List Dx) (p_from : Int) : Option Int :=
  if decide ((p_l.length : Int) = 0) then
  some p_from
  else
  Chk (inB (W ((p_l.length : Int) - 1)) p_l.length) (
  some (((nth p_l (W ((p_l.length : Int) - 1))).Time).To))
def Ka (p_a : An) (p_b : An) : Int :=
  (Hw p_a.Key p_b.Key)
def El (p_a : Int) (j2 : (List An) → Option (List An)) : Nat → (List An) → Int → Option (List An)
  | 0,_,_=>none
  | m2 + 1,x3,x4=>Hq (fun (x5 : Bool) =>
  if x5 then
  Chk (inB (W (x4 - 1)) x3.length) (
  Chk (inB x4 x3.length) (
  Chk (inB x4 x3.length) (
  Chk (inB (W (x4 - 1)) (x3.set x4.toNat (nth x3 (W (x4 - 1)))).length) (
  El p_a j2 m2 ((x3.set x4.toNat (nth x3 (W (x4 - 1)))).set ((W (x4 - 1)).toNat) (nth x3 x4)) (W (x4 - 1))))))
  else
  j2 x3) (fun j3 =>
  if decide (p_a < x4) then
  Chk (inB x4 x3.length) (
  Chk (inB (W (x4 - 1)) x3.length) (
  j3 (decide ((Ka (nth x3 x4) (nth x3 (W (x4 - 1)))) < 0))))
  else
  j3 false)
def Es (p_b : Int) (p_a : Int) (j1 : (List An) → Option (List An)) : Nat → (List An) → Int → Option (List An)
  | 0,_,_=>none
  | m1 + 1,x1,x2=>if decide (x2 < p_b) then
  Hq (fun (x3 : List An) =>
  Es p_b p_a j1 m1 x3 (W (x2 + 1))) (fun j2 =>
  El p_a j2 ((x2 - p_a).toNat + 2) x1 x2)
  else
  j1 x1
def Gk (p_data : List An) (p_a : Int) (p_b : Int) : Option (List An) :=
  Hq (fun (x1 : List An) =>
  some x1) (fun j1 =>
  Es p_b p_a j1 ((p_b - (W (p_a + 1))).toNat + 2) p_data (W (p_a + 1)))
def Fa (p_data : List An) : Nat → Int → Int → Int → Bool → Option (List An)
  | 0,_,_,_,_=>none
  | _ + 1,x1,x2,x3,x4=>if decide ((W (x2 - x1)) ≤ 12) then
  Option.bind (Gk p_data x1 x2) (fun r1 =>
  some r1)
  else
  if decide (x3 = 0) then
  none
  else
  if !x4 then
  none
  else
  none
def Hn (p_data : List An) (p_a : Int) (p_b : Int) (p_limit : Int) : Option (List An) :=
  Fa p_data 4611686018427387904 p_a p_b p_limit true
def Hi (p_x : List An) : Option (List An) :=
  Option.bind (Rq (IntKind.wrap .u64 (p_x.length : Int))) (fun r1 =>
  Option.bind (Hn p_x 0 (p_x.length : Int) r1) (fun r2 =>
  some r2))
def Fx (p_items : List An) (p_l : List Eh) (p_need : Int) (j1 : Int → List (List Dw) → Option (Int × List (List Dw))) : List Eh → Nat → Int → List (List Dw) → Option (Int × List (List Dw))
  | [],_,x1,x2=>j1 x1 x2
  | y1 :: ys1,i1,x1,x2=>Hq (fun (x3 : List (List Dw)) =>
  Chk (inB (W ((x3.length : Int) - 1)) x3.length) (
  Chk (inB (Ea p_items y1.Item) (nth x3 (W ((x3.length : Int) - 1))).length) (
  Hq (fun (x4 : Int) =>
  Fx p_items p_l p_need j1 ys1 (i1 + 1) x4 (x3.set (W ((x3.length : Int) - 1)).toNat ((nth x3 (W ((x3.length : Int) - 1))).set (Ea p_items y1.Item).toNat (Dw.mk (if decide ((nth (nth x3 (W ((x3.length : Int) - 1))) (Ea p_items y1.Item)).last_ = 0) then y1.Heat else (nth (nth x3 (W ((x3.length : Int) - 1))) (Ea p_items y1.Item)).first_) y1.Heat)))) (fun j3 =>
  if decide ((nth (nth x3 (W ((x3.length : Int) - 1))) (Ea p_items y1.Item)).last_ = 0) then
  j3 x1
  else
  Chk (inB (Ea p_items y1.Item) p_items.length) (
  if decide ((W ((W ((W ((W (y1.Heat - (nth (nth x3 (W ((x3.length : Int) - 1))) (Ea p_items y1.Item)).last_)) - 1)) * (nth p_items (Ea p_items y1.Item)).Long)) + (W ((W (y1.Heat - (nth (nth x3 (W ((x3.length : Int) - 1))) (Ea p_items y1.Item)).last_)) * (nth p_items (Ea p_items y1.Item)).Gap)))) < p_need) then
  j3 (W (x1 + 1))
  else
  j3 x1))))) (fun j2 =>
  Hq (fun (c1 : Bool) =>
  if c1 then
  Chk (decide (0 ≤ (p_items.length : Int)) && decide ((p_items.length : Int) < 1073741824)) (
  Chk (Pj x2.length) (
  j2 (x2 ++ [List.replicate ((p_items.length : Int).toNat) (Dw.mk 0 0)])))
  else
  j2 x2) (fun jc =>
  if decide ((i1 : Int) = 0) then
  jc (decide ((i1 : Int) = 0) || true)
  else
  Chk (inB (W ((i1 : Int) - 1)) p_l.length) (
  jc (decide ((i1 : Int) = 0) || (!decide ((nth p_l (W ((i1 : Int) - 1))).Who = y1.Who))))))
def Mg (p_items : List An) (p_l : List Eh) (p_need : Int) : Option (Int × List (List Dw)) :=
  Hq (fun (x1 : Int) (x2 : List (List Dw))=>some (x1,x2)) (fun j1 =>
  Fx p_items p_l p_need j1 p_l 0 0 [])
def Oo (p_s : List Int) : Option (List Int) :=
  Chk (decide ((([] : List Int) : List Int).length + p_s.length < 1073741824)) (
  some ((([] : List Int) : List Int) ++ p_s))
def Pg (p_n : Int) : Option (List Int):=Chk (decide (0 ≤ p_n) && decide (p_n < 1073741824)) (some ([] : List Int))
def Hg (j1 : Int → Option (List Int)) : List (List Int) → Nat → Int → Option (List Int)
  | [],_,x1=>j1 x1
  | y1 :: ys1,i1,x1=>if decide ((W (x1 + (y1.length : Int))) < 0) then
  none
  else
  Hg j1 ys1 (i1 + 1) (W (x1 + (y1.length : Int)))
def Hh (j2 : (List Int) → Option (List Int)) : List (List Int) → Nat → (List Int) → Option (List Int)
  | [],_,x2=>j2 x2
  | y2 :: ys2,i2,x2=>Chk (decide (x2.length + y2.length < 1073741824)) (
  Hh j2 ys2 (i2 + 1) (x2 ++ y2))
def Mh (p_slices : List (List Int)) : Option (List Int) :=
  Hq (fun (x1 : Int) =>
  Option.bind (Pg x1) (fun r2 =>
  Hq (fun (x2 : List Int) =>
  some x2) (fun j2 =>
  Hh j2 p_slices 0 r2))) (fun j1 =>
  Hg j1 p_slices 0 0)
def Gg (p_x : An) (p_heat : Int) : Int :=
  W ((W (p_heat - 1)) * (W (p_x.Long + p_x.Gap)))
def Kh (p_now : List Int) (p_rest : List Int) (self : (List An) → Int → (List (List Dw)) → Int → (List Int) → Int → Int → Bool → (List Int) → (List Int) → Option ((List Int) × Int × Int × Bool)) (p_o_items : List An) (p_o_within : Int) (p_o_spans : List (List Dw)) (p_o_need : Int) (j1 : Int → Int → Bool → (List Int) → Option ((List Int) × Int × Int × Bool)) : List Int → Nat → Int → Int → Bool → (List Int) → Option ((List Int) × Int × Int × Bool)
  | [],_,x1,x2,x3,x4=>j1 x1 x2 x3 x4
  | y1 :: ys1,i1,x1,x2,x3,x4=>Hq (fun (x5 : Int) (x6 : Int) (x7 : Bool) (x8 : List Int) =>
  Kh p_now p_rest self p_o_items p_o_within p_o_spans p_o_need j1 ys1 (i1 + 1) x5 x6 x7 x8) (fun j2 =>
  Option.bind (Oo p_now) (fun r1 =>
  Chk (Pj r1.length) (
  Chk (Tl 0 (i1 : Int) p_rest.length) (
  Chk (Tl (W ((i1 : Int) + 1)) (p_rest.length : Int) p_rest.length) (
  Option.bind (Mh ([cut p_rest 0 (i1 : Int),cut p_rest (W ((i1 : Int) + 1)) p_rest.length] : List (List Int))) (fun r2 =>
  Option.bind (self p_o_items p_o_within p_o_spans p_o_need x4 x1 x2 x3 (r1 ++ [y1]) r2) (fun r3 =>
  j2 r3.2.1 r3.2.2.1 r3.2.2.2 r3.1)))))))
def Ki (p_o_items : List An) (j3 : (List Int) → Int → Option ((List Int) × Int × Int × Bool)) : List Int → Nat → (List Int) → Int → Int → Option ((List Int) × Int × Int × Bool)
  | [],_,x9,_,x11=>j3 x9 x11
  | y2 :: ys2,i2,x9,x10,_=>Chk (inB y2 p_o_items.length) (
  Chk (inB y2 x9.length) (
  Ki p_o_items j3 ys2 (i2 + 1) (x9.set y2.toNat x10) (W ((W ((W (x10 + (Gg (nth p_o_items y2) ((nth p_o_items y2).Heats)))) + ((nth p_o_items y2).Long))) + ((nth p_o_items y2).Break))) (W ((W (x10 + (Gg (nth p_o_items y2) ((nth p_o_items y2).Heats)))) + ((nth p_o_items y2).Long)))))
def Kj (y3 : (List Dw)) (x9 : List Int) (p_o_items : List An) (p_o_need : Int) (j5 : Int → Option ((List Int) × Int × Int × Bool)) : List Int → Nat → Int → Int → Option ((List Int) × Int × Int × Bool)
  | [],_,x13,_=>j5 x13
  | y4 :: ys4,i4,x13,x14=>Hq (fun (x15 : Int) (x16 : Int) =>
  Kj y3 x9 p_o_items p_o_need j5 ys4 (i4 + 1) x15 x16) (fun j6 =>
  Chk (inB y4 y3.length) (
  if decide (((nth y3 y4).last_) = 0) then
  j6 x13 x14
  else
  Chk (inB y4 x9.length) (
  Chk (inB y4 p_o_items.length) (
  Chk (inB y4 y3.length) (
  Hq (fun (x17 : Int) =>
  Chk (inB y4 x9.length) (
  Chk (inB y4 p_o_items.length) (
  Chk (inB y4 y3.length) (
  Chk (inB y4 p_o_items.length) (
  j6 x17 (W ((W ((nth x9 y4) + (Gg (nth p_o_items y4) ((nth y3 y4).last_)))) + ((nth p_o_items y4).Long)))))))) (fun j7 =>
  if ((decide (0 ≤ x14)) && (decide ((W ((W ((nth x9 y4) + (Gg (nth p_o_items y4) ((nth y3 y4).first_)))) - x14)) < p_o_need))) then
  j7 (W (x13 + 1))
  else
  j7 x13))))))
def Kk (x9 : List Int) (p_o_items : List An) (p_o_need : Int) (p_now : List Int) (j4 : Int → Option ((List Int) × Int × Int × Bool)) : List (List Dw) → Nat → Int → Option ((List Int) × Int × Int × Bool)
  | [],_,x12=>j4 x12
  | y3 :: ys3,i3,x12=>Hq (fun (x13 : Int) =>
  Kk x9 p_o_items p_o_need p_now j4 ys3 (i3 + 1) x13) (fun j5 =>
  Kj y3 x9 p_o_items p_o_need j5 p_now 0 x12 (-1))
def Rf (self : (List An) → Int → (List (List Dw)) → Int → (List Int) → Int → Int → Bool → (List Int) → (List Int) → Option ((List Int) × Int × Int × Bool)) (p_o_items : List An) (p_o_within : Int) (p_o_spans : List (List Dw)) (p_o_need : Int) (p_o_best : List Int) (p_o_short : Int) (p_o_ends : Int) (p_o_found : Bool) (p_now : List Int) (p_rest : List Int) : Option ((List Int) × Int × Int × Bool) :=
  if decide (0 < (p_rest.length : Int)) then
  Hq (fun (x1 : Int) (x2 : Int) (x3 : Bool) (x4 : List Int) =>
  some (x4,x1,x2,x3)) (fun j1 =>
  Kh p_now p_rest self p_o_items p_o_within p_o_spans p_o_need j1 p_rest 0 p_o_short p_o_ends p_o_found p_o_best)
  else
  Chk (decide (0 ≤ (p_o_items.length : Int)) && decide ((p_o_items.length : Int) < 1073741824)) (
  Hq (fun (x9 : List Int) (x11 : Int) =>
  Hq (fun (x12 : Int) =>
  Hq (fun (x18 : Bool) =>
  Hq (fun (x19 : Int) (x20 : Int) (x21 : Bool) (x22 : List Int) =>
  some (x22,x19,x20,x21)) (fun j9 =>
  if x18 then
  j9 x12 x11 true p_now
  else
  j9 p_o_short p_o_ends p_o_found p_o_best)) (fun j8 =>
  if !p_o_found then
  j8 true
  else
  j8 (decide ((Mk [(Ga x12 p_o_short),(Ga x11 p_o_ends)]) < 0)))) (fun j4 =>
  Kk x9 p_o_items p_o_need p_now j4 p_o_spans 0 p_o_within)) (fun j3 =>
  Ki p_o_items j3 p_now 0 (List.replicate ((p_o_items.length : Int).toNat) 0 : List Int) 0 0))
def Lx : Nat → (List An) → Int → (List (List Dw)) → Int → (List Int) → Int → Int → Bool → (List Int) → (List Int) → Option ((List Int) × Int × Int × Bool)
  | 0,_,_,_,_,_,_,_,_,_,_=>none
  | m + 1,p_o_items,p_o_within,p_o_spans,p_o_need,p_o_best,p_o_short,p_o_ends,p_o_found,p_now,p_rest=>Rf (Lx m) p_o_items p_o_within p_o_spans p_o_need p_o_best p_o_short p_o_ends p_o_found p_now p_rest
def Io (j2 : (List Int) → Option ((List ByteArray) × Int × Int)) : List An → Nat → (List Int) → Option ((List ByteArray) × Int × Int)
  | [],_,x2=>j2 x2
  | _ :: ys1,i1,x2=>Chk (Pj x2.length) (
  Io j2 ys1 (i1 + 1) (x2 ++ [(i1 : Int)]))
def Ic (r5 : (List An)) (j3 : (List ByteArray) → Option ((List ByteArray) × Int × Int)) : List Int → Nat → (List ByteArray) → Option ((List ByteArray) × Int × Int)
  | [],_,x3=>j3 x3
  | y2 :: ys2,i2,x3=>Chk (inB y2 r5.length) (
  Chk (Pj x3.length) (
  Ic r5 j3 ys2 (i2 + 1) (x3 ++ [(nth r5 y2).Key])))
def Pd (p_items : List An) (p_l : List Eh) (p_need : Int) : Option ((List ByteArray) × Int × Int) :=
  Option.bind (Iz p_items p_l) (fun r1 =>
  if !decide (r1 = 0) then
  some (([] : List ByteArray),0,r1)
  else
  if decide (8 < (p_items.length : Int)) then
  some (([] : List ByteArray),0,2)
  else
  Hq (fun (x1 : Bool) =>
  if x1 then
  some (([] : List ByteArray),0,1)
  else
  Option.bind (Lb p_items) (fun r4 =>
  Option.bind (Hi r4) (fun r5 =>
  Option.bind (Mg r5 p_l p_need) (fun r6 =>
  Hq (fun (x2 : List Int) =>
  Option.bind (Lx 16 r5 r6.1 r6.2 p_need ([] : List Int) 0 0 false ([] : List Int) x2) (fun r7 =>
  Hq (fun (x3 : List ByteArray) =>
  some (x3,r7.2.1,0)) (fun j3 =>
  Ic r5 j3 r7.1 0 ([] : List ByteArray)))) (fun j2 =>
  Io j2 r5 0 ([] : List Int)))))) (fun j1 =>
  if (!(En p_need 0 3600000)) then
  j1 true
  else
  Option.bind (Lc p_items 0) (fun r2 =>
  Option.bind (Og r2 0) (fun r3 =>
  j1 (decide (345686400000 < r3))))))
def Hc (p_v : ByteArray) (j1 : Int) : List ByteArray → Nat → Int
  | [],_=>j1
  | y1 :: ys1,i1=>if decide (p_v = y1) then
  (i1 : Int)
  else
  Hc p_v j1 ys1 (i1 + 1)
def Ms (p_s : List ByteArray) (p_v : ByteArray) : Int :=
  Hq ((-1)) (fun j1 =>
  Hc p_v j1 p_s 0)
def Gn (p_s : List ByteArray) (p_v : ByteArray) : Bool :=
  decide (0 ≤ (Ms p_s p_v))
def Je (p_items : List An) (p_order : List ByteArray) (j1 : (List An) → Option ((List An) × Int)) : List ByteArray → Nat → (List An) → Option ((List An) × Int)
  | [],_,x1=>j1 x1
  | y1 :: ys1,i1,x1=>if decide ((Ea p_items y1) < 0) then
  some (([] : List An),8)
  else
  Chk (Tl 0 (i1 : Int) p_order.length) (
  if (Gn (cut p_order 0 (i1 : Int)) y1) then
  some (([] : List An),6)
  else
  Chk (inB (Ea p_items y1) p_items.length) (
  Chk (Pj x1.length) (
  Je p_items p_order j1 ys1 (i1 + 1) (x1 ++ [(nth p_items (Ea p_items y1))]))))
def Ml (p_items : List An) (p_order : List ByteArray) : Option ((List An) × Int) :=
  Option.bind (Iy p_items) (fun r1 =>
  if !decide (r1 = 0) then
  some (([] : List An),r1)
  else
  if !decide ((p_order.length : Int) = (p_items.length : Int)) then
  some (([] : List An),3)
  else
  Hq (fun (x1 : List An) =>
  some (x1,0)) (fun j1 =>
  Je p_items p_order j1 p_order 0 ([] : List An)))
def Hj (j1 : Int) : List Int → Nat → Int
  | [],_=>j1
  | y1 :: ys1,i1=>if !decide (y1 = 0) then
  y1
  else
  Hj j1 ys1 (i1 + 1)
def Fm (p_l : List Int) : Int :=
  Hq (0) (fun j1 =>
  Hj j1 p_l 0)
def Oh (p_n : Int) : Bool :=
  ((decide (0 ≤ p_n)) && (decide (p_n < 345686400000)))
def Np (p_l : List An) (p_from : Int) : Option ((List Dx) × Int) :=
  if !(Oh p_from) then
  some (([] : List Dx),1)
  else
  Option.bind (Lc p_l p_from) (fun r1 =>
  Option.bind (Og r1 p_from) (fun r2 =>
  if decide (345686400000 < r2) then
  some (([] : List Dx),1)
  else
  some (r1,0)))
def Hv (j1 : (List (Ed × Dx)) → (List (Ed × Dx))) : List Dx → Nat → (List (Ed × Dx)) → (List (Ed × Dx))
  | [],_,x1=>j1 x1
  | y1 :: ys1,i1,x1=>Hv j1 ys1 (i1 + 1) (Po x1 (Ed.mk y1.Item y1.Heat) y1)
def Jf (p_t : List Dx) : (List (Ed × Dx)) :=
  Hq (fun (x1 : List (Ed × Dx)) =>
  x1) (fun j1 =>
  Hv j1 p_t 0 ([] : List (Ed × Dx)))
def Jo (p_a : Dx) (p_b : Dx) : Int :=
  (Ga p_a.Time.From p_b.Time.From)
def Em (p_a : Int) (j2 : (List Dx) → Option (List Dx)) : Nat → (List Dx) → Int → Option (List Dx)
  | 0,_,_=>none
  | m2 + 1,x3,x4=>Hq (fun (x5 : Bool) =>
  if x5 then
  Chk (inB (W (x4 - 1)) x3.length) (
  Chk (inB x4 x3.length) (
  Chk (inB x4 x3.length) (
  Chk (inB (W (x4 - 1)) (x3.set x4.toNat (Dx.mk ((nth x3 (W (x4 - 1))).Item) ((nth x3 (W (x4 - 1))).Heat) ((nth x3 (W (x4 - 1))).Time))).length) (
  Em p_a j2 m2 ((x3.set x4.toNat (Dx.mk ((nth x3 (W (x4 - 1))).Item) ((nth x3 (W (x4 - 1))).Heat) ((nth x3 (W (x4 - 1))).Time))).set ((W (x4 - 1)).toNat) (Dx.mk ((nth x3 x4).Item) ((nth x3 x4).Heat) ((nth x3 x4).Time))) (W (x4 - 1))))))
  else
  j2 x3) (fun j3 =>
  if decide (p_a < x4) then
  Chk (inB x4 x3.length) (
  Chk (inB (W (x4 - 1)) x3.length) (
  j3 (decide ((Jo (Dx.mk ((nth x3 x4).Item) ((nth x3 x4).Heat) ((nth x3 x4).Time)) (Dx.mk ((nth x3 (W (x4 - 1))).Item) ((nth x3 (W (x4 - 1))).Heat) ((nth x3 (W (x4 - 1))).Time))) < 0))))
  else
  j3 false)
def Et (p_b : Int) (p_a : Int) (j1 : (List Dx) → Option (List Dx)) : Nat → (List Dx) → Int → Option (List Dx)
  | 0,_,_=>none
  | m1 + 1,x1,x2=>if decide (x2 < p_b) then
  Hq (fun (x3 : List Dx) =>
  Et p_b p_a j1 m1 x3 (W (x2 + 1))) (fun j2 =>
  Em p_a j2 ((x2 - p_a).toNat + 2) x1 x2)
  else
  j1 x1
def Gl (p_data : List Dx) (p_a : Int) (p_b : Int) : Option (List Dx) :=
  Hq (fun (x1 : List Dx) =>
  some x1) (fun j1 =>
  Et p_b p_a j1 ((p_b - (W (p_a + 1))).toNat + 2) p_data (W (p_a + 1)))
def Fb (p_data : List Dx) : Nat → Int → Int → Int → Bool → Option (List Dx)
  | 0,_,_,_,_=>none
  | _ + 1,x1,x2,x3,x4=>if decide ((W (x2 - x1)) ≤ 12) then
  Option.bind (Gl p_data x1 x2) (fun r1 =>
  some r1)
  else
  if decide (x3 = 0) then
  none
  else
  if !x4 then
  none
  else
  none
def Ho (p_data : List Dx) (p_a : Int) (p_b : Int) (p_limit : Int) : Option (List Dx) :=
  Fb p_data 4611686018427387904 p_a p_b p_limit true
def Gp (p_x : List Dx) : Option (List Dx) :=
  Option.bind (Rq (IntKind.wrap .u64 (p_x.length : Int))) (fun r1 =>
  Option.bind (Ho p_x 0 (p_x.length : Int) r1) (fun r2 =>
  some r2))
def Jp (p_who : ByteArray) (p_at : List (Ed × Dx)) (j1 : (List Dx) → Option (List Dx)) : List Eh → Nat → (List Dx) → Option (List Dx)
  | [],_,x1=>j1 x1
  | y1 :: ys1,i1,x1=>Hq (fun (x2 : List Dx) =>
  Jp p_who p_at j1 ys1 (i1 + 1) x2) (fun j2 =>
  Hq (fun (x3 : List Dx) =>
  j2 x3) (fun j3 =>
  if decide (y1.Who = p_who) then
  Chk (Pj x1.length) (
  j3 (x1 ++ [(Dx.mk ((Kw p_at (Ed.mk y1.Item y1.Heat) (Dx.mk Eo 0 (Gt.mk 0 0))).Item) ((Kw p_at (Ed.mk y1.Item y1.Heat) (Dx.mk Eo 0 (Gt.mk 0 0))).Heat) ((Kw p_at (Ed.mk y1.Item y1.Heat) (Dx.mk Eo 0 (Gt.mk 0 0))).Time))]))
  else
  j3 x1))
def Ln (p_at : List (Ed × Dx)) (p_l : List Eh) (p_who : ByteArray) : Option (List Dx) :=
  Hq (fun (x1 : List Dx) =>
  Option.bind (Gp x1) (fun r1 =>
  some r1)) (fun j1 =>
  Jp p_who p_at j1 p_l 0 ([] : List Dx))
def Jg (r1 : (List Dx)) (y1 : Eh) (j4 : (List Eu) → Option (List Eu)) : Nat → (List Eu) → Int → Option (List Eu)
  | 0,_,_=>none
  | m1 + 1,x3,x4=>if decide (x4 < (r1.length : Int)) then
  Chk (inB (W (x4 - 1)) r1.length) (
  Chk (inB x4 r1.length) (
  Chk (inB x4 r1.length) (
  Chk (inB (W (x4 - 1)) r1.length) (
  Chk (Pj x3.length) (
  Jg r1 y1 j4 m1 (x3 ++ [(Eu.mk y1.Who (Dx.mk ((nth r1 (W (x4 - 1))).Item) ((nth r1 (W (x4 - 1))).Heat) ((nth r1 (W (x4 - 1))).Time)) (Dx.mk ((nth r1 x4).Item) ((nth r1 x4).Heat) ((nth r1 x4).Time)) (W ((((nth r1 x4).Time).From) - (((nth r1 (W (x4 - 1))).Time).To))))]) (W (x4 + 1)))))))
  else
  j4 x3
def Hk (p_t : List Dx) (p_l : List Eh) (j1 : (List Eu) → Option (List Eu)) : List Eh → Nat → (List Eu) → Option (List Eu)
  | [],_,x1=>j1 x1
  | y1 :: ys1,i1,x1=>Hq (fun (x2 : List Eu) =>
  Hk p_t p_l j1 ys1 (i1 + 1) x2) (fun j2 =>
  Hq (fun (c1 : Bool) =>
  if c1 then
  j2 x1
  else
  Option.bind (Ln (Jf p_t) p_l y1.Who) (fun r1 =>
  Hq (fun (x3 : List Eu) =>
  j2 x3) (fun j4 =>
  Jg r1 y1 j4 (((r1.length : Int) - 1).toNat + 2) x1 1))) (fun j3 =>
  if (decide (0 < (i1 : Int))) then Chk (inB (W ((i1 : Int) - 1)) p_l.length) (
  j3 ((decide (0 < (i1 : Int))) && (decide (((nth p_l (W ((i1 : Int) - 1))).Who) = y1.Who)))) else j3 ((decide (0 < (i1 : Int))) && true)))
def Nq (p_t : List Dx) (p_l : List Eh) : Option (List Eu) :=
  Hq (fun (x1 : List Eu) =>
  some x1) (fun j1 =>
  Hk p_t p_l j1 p_l 0 ([] : List Eu))
def Qp (p_items : List An) (p_l : List Eh) (p_from : Int) : Option ((List Eu) × Int) :=
  Option.bind (Iz p_items p_l) (fun r1 =>
  if !decide (r1 = 0) then
  some (([] : List Eu),r1)
  else
  Option.bind (Np p_items p_from) (fun r2 =>
  if !decide (r2.2 = 0) then
  some (([] : List Eu),r2.2)
  else
  Option.bind (Nq r2.1 p_l) (fun r3 =>
  some (r3,0))))
def Oq (p_x : Eu) (p_a1 : Int) : Bool :=
  decide (p_a1 ≤ p_x.Long)
def Fh (p_f_0 : Int) (j1 : Int) : List Eu → Nat → Int
  | [],_=>j1
  | y1 :: ys1,i1=>if (Oq y1 p_f_0) then
  (i1 : Int)
  else
  Fh p_f_0 j1 ys1 (i1 + 1)
def Fp (p_s : List Eu) (p_f_0 : Int) : Int :=
  Hq ((-1)) (fun j1 =>
  Fh p_f_0 j1 p_s 0)
def Ez (p_del_0 : Int) (j1 : (List Eu) → Int → Option (List Eu)) : Nat → (List Eu) → Int → Int → Option (List Eu)
  | 0,_,_,_=>none
  | m1 + 1,x1,x2,x3=>if decide (x3 < (x1.length : Int)) then
  Hq (fun (x4 : List Eu) (x5 : Int) =>
  Ez p_del_0 j1 m1 x4 x5 (W (x3 + 1))) (fun j2 =>
  Chk (inB x3 x1.length) (
  Hq (fun (x6 : List Eu) (x7 : Int) =>
  j2 x6 x7) (fun j3 =>
  if !(Oq (Eu.mk ((nth x1 x3).Who) (Dx.mk (((nth x1 x3).From).Item) (((nth x1 x3).From).Heat) (((nth x1 x3).From).Time)) (Dx.mk (((nth x1 x3).To).Item) (((nth x1 x3).To).Heat) (((nth x1 x3).To).Time)) ((nth x1 x3).Long)) p_del_0) then
  Chk (inB x2 x1.length) (
  j3 (x1.set x2.toNat (Eu.mk ((nth x1 x3).Who) (Dx.mk (((nth x1 x3).From).Item) (((nth x1 x3).From).Heat) (((nth x1 x3).From).Time)) (Dx.mk (((nth x1 x3).To).Item) (((nth x1 x3).To).Heat) (((nth x1 x3).To).Time)) ((nth x1 x3).Long))) (W (x2 + 1)))
  else
  j3 x1 x2)))
  else
  j1 x1 x2
def Ib (p_s : List Eu) (p_del_0 : Int) : Option (List Eu) :=
  if decide ((Fp p_s p_del_0) = (-1)) then
  some p_s
  else
  Hq (fun (x1 : List Eu) (x2 : Int) =>
  Chk (Tl x2 (x1.length : Int) x1.length) (
  Chk (Tl 0 x2 (clr x1 x2 (x1.length : Int) (Eu.mk Eo (Dx.mk Eo 0 (Gt.mk 0 0)) (Dx.mk Eo 0 (Gt.mk 0 0)) 0)).length) (
  some (cut (clr x1 x2 (x1.length : Int) (Eu.mk Eo (Dx.mk Eo 0 (Gt.mk 0 0)) (Dx.mk Eo 0 (Gt.mk 0 0)) 0)) (0 : Int) x2)))) (fun j1 =>
  Ez p_del_0 j1 (((p_s.length : Int) - (W ((Fp p_s p_del_0) + 1))).toNat + 2) p_s (Fp p_s p_del_0) (W ((Fp p_s p_del_0) + 1)))
def Mm (p_items : List An) (p_l : List Eh) (p_from : Int) (p_need : Int) : Option ((List Eu) × Int) :=
  Option.bind (Qp p_items p_l p_from) (fun r1 =>
  if !decide (r1.2 = 0) then
  some (([] : List Eu),r1.2)
  else
  if !(En p_need 0 3600000) then
  some (([] : List Eu),1)
  else
  Option.bind (Ib r1.1 p_need) (fun r2 =>
  some (r2,0)))
def Jb (p_n : Int) (j1 : (List Int) → Option ((List Int) × Int)) : Nat → (List Int) → Int → Option ((List Int) × Int)
  | 0,_,_=>none
  | m1 + 1,x1,x2=>if decide (x2 < p_n) then
  Chk (Pj x1.length) (
  Jb p_n j1 m1 (x1 ++ [x2]) (W (x2 + 1)))
  else
  j1 x1
def Jc (p_s_L : List Int) (j2 : (List Int) → Int → Option ((List Int) × Int)) : Nat → (List Int) → Int → Int → Option ((List Int) × Int)
  | 0,_,_,_=>none
  | m2 + 1,x3,x4,x5=>if decide (0 < x5) then
  Option.bind (Mc p_s_L x4 (W (x5 + 1))) (fun r1 =>
  Chk (inB r1.1 x3.length) (
  Chk (inB x5 x3.length) (
  Chk (inB x5 x3.length) (
  Chk (inB r1.1 (x3.set x5.toNat (nth x3 r1.1)).length) (
  Jc p_s_L j2 m2 ((x3.set x5.toNat (nth x3 r1.1)).set r1.1.toNat (nth x3 x5)) r1.2 (W (x5 - 1)))))))
  else
  j2 x3 x4
def Pv (p_s_L : List Int) (p_s_at : Int) (p_n : Int) : Option ((List Int) × Int) :=
  Hq (fun (x1 : List Int) =>
  Hq (fun (x3 : List Int) (x4 : Int) =>
  some (x3,x4)) (fun j2 =>
  Jc p_s_L j2 (((W (p_n - 1)) - 0).toNat + 2) x1 p_s_at (W (p_n - 1)))) (fun j1 =>
  Jb p_n j1 ((p_n - 0).toNat + 2) ([] : List Int) 0)
def Rg (p_year : Int) : Bool :=
  ((decide ((Int.tmod p_year 4) = 0)) && ((!decide ((Int.tmod p_year 100) = 0)) || (decide ((Int.tmod p_year 400) = 0))))
def Ju (p_year : Int) (p_month : Int) : Int :=
  if decide (p_month = 2) then
  if (Rg p_year) then
  29
  else
  28
  else
  Hq (fun (x1 : Bool) =>
  if x1 then
  30
  else
  31) (fun j1 =>
  if decide (p_month = 4) then
  j1 (decide (p_month = 4))
  else
  Hq (fun (x2 : Bool) =>
  j1 x2) (fun j2 =>
  if decide (p_month = 6) then
  j2 (decide (p_month = 6))
  else
  Hq (fun (x3 : Bool) =>
  j2 x3) (fun j3 =>
  if decide (p_month = 9) then
  j3 (decide (p_month = 9))
  else
  j3 (decide (p_month = 11)))))
def Lt (p_year : Int) : Int :=
  if (Rg p_year) then
  366
  else
  365
def Sb (p_n : Int) : Bool :=
  (En p_n (-40000) 4000)
def Kb (p_d : Jj) (j2 : Int → Option (Int × Int)) : Nat → Int → Int → Option (Int × Int)
  | 0,_,_=>none
  | m1 + 1,x2,x3=>if decide (x3 < p_d.Month) then
  Kb p_d j2 m1 (W (x2 + (Ju p_d.Year x3))) (W (x3 + 1))
  else
  j2 x2
def Kc (p_d : Jj) (j3 : Int → Option (Int × Int)) : Nat → Int → Int → Option (Int × Int)
  | 0,_,_=>none
  | m2 + 1,x4,x5=>if decide (x5 < p_d.Year) then
  Kc p_d j3 m2 (W (x4 + (Lt x5))) (W (x5 + 1))
  else
  j3 x4
def Kd (j4 : Int → Option (Int × Int)) : Nat → Int → Int → Option (Int × Int)
  | 0,_,_=>none
  | m3 + 1,x6,x7=>if decide (x7 < 2024) then
  Kd j4 m3 (W (x6 - (Lt x7))) (W (x7 + 1))
  else
  j4 x6
def Sc (p_d : Jj) : Option (Int × Int) :=
  Hq (fun (x1 : Bool) =>
  if x1 then
  some (0,1)
  else
  Hq (fun (x2 : Int) =>
  Hq (fun (x4 : Int) =>
  Hq (fun (x6 : Int) =>
  if !(Sb x6) then
  some (0,1)
  else
  some (x6,0)) (fun j4 =>
  Kd j4 ((2024 - p_d.Year).toNat + 2) x4 p_d.Year)) (fun j3 =>
  Kc p_d j3 ((p_d.Year - 2024).toNat + 2) x2 2024)) (fun j2 =>
  Kb p_d j2 ((p_d.Month - 1).toNat + 2) (W (p_d.Day - 1)) 1)) (fun j1 =>
  if !(En p_d.Year 1900 2100) then
  if true then
  j1 true
  else
  j1 (!(En p_d.Day 1 (Ju p_d.Year p_d.Month)))
  else
  if !(En p_d.Month 1 12) then
  j1 true
  else
  j1 (!(En p_d.Day 1 (Ju p_d.Year p_d.Month))))
def Pw (p_l : List An) (p_from : Int) : Option ((List Dx) × Int) :=
  Option.bind (Iy p_l) (fun r1 =>
  if !decide (r1 = 0) then
  some (([] : List Dx),r1)
  else
  Option.bind (Np p_l p_from) (fun r2 =>
  some (r2.1,r2.2)))
def Tb (p_l : List An) (p_from : Int) : Option (Int × Int) :=
  Option.bind (Pw p_l p_from) (fun r1 =>
  if !decide (r1.2 = 0) then
  some (0,r1.2)
  else
  Option.bind (Og r1.1 p_from) (fun r2 =>
  some (r2,0)))
def Mn (p_n : Int) : Bool :=
  (En p_n 1 360000)
def Ji (p_l : List Mq) (j1 : Option Int) : List Mq → Nat → Option Int
  | [],_=>j1
  | y1 :: ys1,i1=>Option.bind (Jh y1.Race) (fun r1 =>
  if !r1 then
  some 5
  else
  Hq (fun (c1 : Bool) =>
  if c1 then
  some 7
  else
  if !(Mn y1.Time) then
  some 1
  else
  Ji p_l j1 ys1 (i1 + 1)) (fun j2 =>
  if (decide (0 < (i1 : Int))) then Chk (inB (W ((i1 : Int) - 1)) p_l.length) (
  j2 ((decide (0 < (i1 : Int))) && (Vc y1.Race ((nth p_l (W ((i1 : Int) - 1))).Race) || decide (y1.Race = ((nth p_l (W ((i1 : Int) - 1))).Race))))) else j2 ((decide (0 < (i1 : Int))) && true)))
def Qk (p_l : List Mq) : Option Int :=
  if decide (500 < (p_l.length : Int)) then
  some 2
  else
  Hq (some 0) (fun j1 =>
  Ji p_l j1 p_l 0)
def Ke (p_race : ByteArray) (j1 : Int) : List Mq → Nat → Int
  | [],_=>j1
  | y1 :: ys1,i1=>if decide (y1.Race = p_race) then
  y1.Time
  else
  Ke p_race j1 ys1 (i1 + 1)
def Nr (p_l : List Mq) (p_race : ByteArray) : Int :=
  Hq (0) (fun j1 =>
  Ke p_race j1 p_l 0)
def Mz (p_x : Int) (p_y : Int) : (Int × Int) :=
  (IntKind.wrap .u64 ((IntKind.wrap .u64 ((IntKind.wrap .u64 ((Fl .u64 p_x 32) * (Fl .u64 p_y 32))) + (Fl .u64 (IntKind.wrap .u64 ((IntKind.wrap .u64 ((Fl .u64 p_x 32) * (Jw .u64 p_y 4294967295))) + (Fl .u64 (IntKind.wrap .u64 ((Jw .u64 p_x 4294967295) * (Jw .u64 p_y 4294967295))) 32))) 32))) + (Fl .u64 (IntKind.wrap .u64 ((Jw .u64 (IntKind.wrap .u64 ((IntKind.wrap .u64 ((Fl .u64 p_x 32) * (Jw .u64 p_y 4294967295))) + (Fl .u64 (IntKind.wrap .u64 ((Jw .u64 p_x 4294967295) * (Jw .u64 p_y 4294967295))) 32))) 4294967295) + (IntKind.wrap .u64 ((Jw .u64 p_x 4294967295) * (Fl .u64 p_y 32))))) 32)),IntKind.wrap .u64 (p_x * p_y))
def Ov (p_x : Int) : Option Int :=
  Option.bind (Sz p_x) (fun r1 =>
  some (W (64 - r1)))
def Lo (p_lo : Int) (r1 : Int) (p_y : Int) (j1 : Int → Option (Int × Int)) : Nat → Int → Int → Option (Int × Int)
  | 0,_,_=>none
  | m1 + 1,x1,x2=>if ((decide (4294967296 ≤ x1)) || (decide ((IntKind.wrap .u64 ((IntKind.wrap .u64 (4294967296 * x2)) + (Fl .u64 (Ev .u64 p_lo (IntKind.wrap .u64 r1)) 32))) < (IntKind.wrap .u64 (x1 * (Jw .u64 (Ev .u64 p_y (IntKind.wrap .u64 r1)) 4294967295)))))) then
  if decide (4294967296 ≤ (IntKind.wrap .u64 (x2 + (Fl .u64 (Ev .u64 p_y (IntKind.wrap .u64 r1)) 32)))) then
  j1 (IntKind.wrap .u64 (x1 - 1))
  else
  Lo p_lo r1 p_y j1 m1 (IntKind.wrap .u64 (x1 - 1)) (IntKind.wrap .u64 (x2 + (Fl .u64 (Ev .u64 p_y (IntKind.wrap .u64 r1)) 32)))
  else
  j1 x1
def Lp (p_lo : Int) (r1 : Int) (p_y : Int) (j2 : Int → Option (Int × Int)) : Nat → Int → Int → Option (Int × Int)
  | 0,_,_=>none
  | m2 + 1,x3,x4=>if ((decide (4294967296 ≤ x4)) || (decide ((IntKind.wrap .u64 ((IntKind.wrap .u64 (4294967296 * x3)) + (Jw .u64 (Ev .u64 p_lo (IntKind.wrap .u64 r1)) 4294967295))) < (IntKind.wrap .u64 (x4 * (Jw .u64 (Ev .u64 p_y (IntKind.wrap .u64 r1)) 4294967295)))))) then
  if decide (4294967296 ≤ (IntKind.wrap .u64 (x3 + (Fl .u64 (Ev .u64 p_y (IntKind.wrap .u64 r1)) 32)))) then
  j2 (IntKind.wrap .u64 (x4 - 1))
  else
  Lp p_lo r1 p_y j2 m2 (IntKind.wrap .u64 (x3 + (Fl .u64 (Ev .u64 p_y (IntKind.wrap .u64 r1)) 32))) (IntKind.wrap .u64 (x4 - 1))
  else
  j2 x4
def Vp (p_hi : Int) (p_lo : Int) (p_y : Int) : Option (Int × Int) :=
  if decide (p_y = 0) then
  none
  else
  if decide (p_y ≤ p_hi) then
  none
  else
  if decide (p_hi = 0) then
  Chk (!decide (p_y = 0)) (
  Chk (!decide (p_y = 0)) (
  some (IntKind.wrap .u64 (Int.tdiv p_lo p_y),Int.tmod p_lo p_y)))
  else
  Option.bind (Ov p_y) (fun r1 =>
  Chk (decide (0 ≤ (IntKind.wrap .u64 r1))) (
  Chk (decide (0 ≤ (IntKind.wrap .u64 r1))) (
  Chk (decide (0 ≤ (IntKind.wrap .u64 (64 - (IntKind.wrap .u64 r1))))) (
  Chk (decide (0 ≤ (IntKind.wrap .u64 r1))) (
  Chk (!decide ((Fl .u64 (Ev .u64 p_y (IntKind.wrap .u64 r1)) 32) = 0)) (
  Hq (fun (x1 : Int) =>
  Chk (!decide ((Fl .u64 (Ev .u64 p_y (IntKind.wrap .u64 r1)) 32) = 0)) (
  Hq (fun (x4 : Int) =>
  Chk (decide (0 ≤ (IntKind.wrap .u64 r1))) (
  some (IntKind.wrap .u64 ((IntKind.wrap .u64 (x1 * 4294967296)) + x4),Fl .u64 (IntKind.wrap .u64 ((IntKind.wrap .u64 ((IntKind.wrap .u64 ((IntKind.wrap .u64 ((IntKind.wrap .u64 ((IntKind.wrap .u64 ((Nd .u64 (Ev .u64 p_hi (IntKind.wrap .u64 r1)) (Fl .u64 p_lo (IntKind.wrap .u64 (64 - (IntKind.wrap .u64 r1))))) * 4294967296)) + (Fl .u64 (Ev .u64 p_lo (IntKind.wrap .u64 r1)) 32))) - (IntKind.wrap .u64 (x1 * (Ev .u64 p_y (IntKind.wrap .u64 r1)))))) * 4294967296)) + (Jw .u64 (Ev .u64 p_lo (IntKind.wrap .u64 r1)) 4294967295))) - (IntKind.wrap .u64 (x4 * (Ev .u64 p_y (IntKind.wrap .u64 r1)))))) (IntKind.wrap .u64 r1)))) (fun j2 =>
  Lp p_lo r1 p_y j2 (((IntKind.wrap .u64 (Int.tdiv (IntKind.wrap .u64 ((IntKind.wrap .u64 ((IntKind.wrap .u64 ((Nd .u64 (Ev .u64 p_hi (IntKind.wrap .u64 r1)) (Fl .u64 p_lo (IntKind.wrap .u64 (64 - (IntKind.wrap .u64 r1))))) * 4294967296)) + (Fl .u64 (Ev .u64 p_lo (IntKind.wrap .u64 r1)) 32))) - (IntKind.wrap .u64 (x1 * (Ev .u64 p_y (IntKind.wrap .u64 r1)))))) (Fl .u64 (Ev .u64 p_y (IntKind.wrap .u64 r1)) 32))) - 4294967296).toNat + 2) (IntKind.wrap .u64 ((IntKind.wrap .u64 ((IntKind.wrap .u64 ((IntKind.wrap .u64 ((Nd .u64 (Ev .u64 p_hi (IntKind.wrap .u64 r1)) (Fl .u64 p_lo (IntKind.wrap .u64 (64 - (IntKind.wrap .u64 r1))))) * 4294967296)) + (Fl .u64 (Ev .u64 p_lo (IntKind.wrap .u64 r1)) 32))) - (IntKind.wrap .u64 (x1 * (Ev .u64 p_y (IntKind.wrap .u64 r1)))))) - (IntKind.wrap .u64 ((IntKind.wrap .u64 (Int.tdiv (IntKind.wrap .u64 ((IntKind.wrap .u64 ((IntKind.wrap .u64 ((Nd .u64 (Ev .u64 p_hi (IntKind.wrap .u64 r1)) (Fl .u64 p_lo (IntKind.wrap .u64 (64 - (IntKind.wrap .u64 r1))))) * 4294967296)) + (Fl .u64 (Ev .u64 p_lo (IntKind.wrap .u64 r1)) 32))) - (IntKind.wrap .u64 (x1 * (Ev .u64 p_y (IntKind.wrap .u64 r1)))))) (Fl .u64 (Ev .u64 p_y (IntKind.wrap .u64 r1)) 32))) * (Fl .u64 (Ev .u64 p_y (IntKind.wrap .u64 r1)) 32))))) (IntKind.wrap .u64 (Int.tdiv (IntKind.wrap .u64 ((IntKind.wrap .u64 ((IntKind.wrap .u64 ((Nd .u64 (Ev .u64 p_hi (IntKind.wrap .u64 r1)) (Fl .u64 p_lo (IntKind.wrap .u64 (64 - (IntKind.wrap .u64 r1))))) * 4294967296)) + (Fl .u64 (Ev .u64 p_lo (IntKind.wrap .u64 r1)) 32))) - (IntKind.wrap .u64 (x1 * (Ev .u64 p_y (IntKind.wrap .u64 r1)))))) (Fl .u64 (Ev .u64 p_y (IntKind.wrap .u64 r1)) 32)))))) (fun j1 =>
  Lo p_lo r1 p_y j1 (((IntKind.wrap .u64 (Int.tdiv (Nd .u64 (Ev .u64 p_hi (IntKind.wrap .u64 r1)) (Fl .u64 p_lo (IntKind.wrap .u64 (64 - (IntKind.wrap .u64 r1))))) (Fl .u64 (Ev .u64 p_y (IntKind.wrap .u64 r1)) 32))) - 4294967296).toNat + 2) (IntKind.wrap .u64 (Int.tdiv (Nd .u64 (Ev .u64 p_hi (IntKind.wrap .u64 r1)) (Fl .u64 p_lo (IntKind.wrap .u64 (64 - (IntKind.wrap .u64 r1))))) (Fl .u64 (Ev .u64 p_y (IntKind.wrap .u64 r1)) 32))) (IntKind.wrap .u64 ((Nd .u64 (Ev .u64 p_hi (IntKind.wrap .u64 r1)) (Fl .u64 p_lo (IntKind.wrap .u64 (64 - (IntKind.wrap .u64 r1))))) - (IntKind.wrap .u64 ((IntKind.wrap .u64 (Int.tdiv (Nd .u64 (Ev .u64 p_hi (IntKind.wrap .u64 r1)) (Fl .u64 p_lo (IntKind.wrap .u64 (64 - (IntKind.wrap .u64 r1))))) (Fl .u64 (Ev .u64 p_y (IntKind.wrap .u64 r1)) 32))) * (Fl .u64 (Ev .u64 p_y (IntKind.wrap .u64 r1)) 32))))))))))))
def Sd (p_base : Int) (p_time : Int) : Option Int :=
  if decide ((IntKind.wrap .u64 ((IntKind.wrap .u64 ((IntKind.wrap .u64 p_time) * (IntKind.wrap .u64 p_time))) * (IntKind.wrap .u64 p_time))) ≤ ((Mz (IntKind.wrap .u64 ((IntKind.wrap .u64 ((IntKind.wrap .u64 p_base) * (IntKind.wrap .u64 p_base))) * (IntKind.wrap .u64 p_base))) 1000).1)) then
  some 1000000000
  else
  Option.bind (Vp ((Mz (IntKind.wrap .u64 ((IntKind.wrap .u64 ((IntKind.wrap .u64 p_base) * (IntKind.wrap .u64 p_base))) * (IntKind.wrap .u64 p_base))) 1000).1) ((Mz (IntKind.wrap .u64 ((IntKind.wrap .u64 ((IntKind.wrap .u64 p_base) * (IntKind.wrap .u64 p_base))) * (IntKind.wrap .u64 p_base))) 1000).2) (IntKind.wrap .u64 ((IntKind.wrap .u64 ((IntKind.wrap .u64 p_time) * (IntKind.wrap .u64 p_time))) * (IntKind.wrap .u64 p_time)))) (fun r1 =>
  some (W (DL r1.1 1000000000)))
def Se (p_l : List Mq) (p_race : ByteArray) (p_time : Int) : Option (Int × Int) :=
  Option.bind (Qk p_l) (fun r1 =>
  if !decide (r1 = 0) then
  some (0,r1)
  else
  if decide ((Nr p_l p_race) = 0) then
  some (0,8)
  else
  if !(Mn p_time) then
  some (0,1)
  else
  Option.bind (Sd (Nr p_l p_race) p_time) (fun r2 =>
  some (r2,0)))
def Iq (y1 : Pc) (j4 : Option Int) : List ByteArray → Nat → Option Int
  | [],_=>j4
  | y2 :: ys2,i2=>Option.bind (Jh y2) (fun r5 =>
  if !r5 then
  some 5
  else
  Hq (fun (c3 : Bool) =>
  if c3 then
  some 7
  else
  Iq y1 j4 ys2 (i2 + 1)) (fun j5 =>
  if (decide (0 < (i2 : Int))) then Chk (inB (W ((i2 : Int) - 1)) y1.Clubs.length) (
  j5 ((decide (0 < (i2 : Int))) && (Vc y2 (nth y1.Clubs (W ((i2 : Int) - 1))) || decide (y2 = (nth y1.Clubs (W ((i2 : Int) - 1))))))) else j5 ((decide (0 < (i2 : Int))) && true)))
def Ir (p_l : List Pc) (j1 : Option Int) : List Pc → Nat → Option Int
  | [],_=>j1
  | y1 :: ys1,i1=>Option.bind (Jh y1.Key) (fun r2 =>
  Hq (fun (c1 : Bool) =>
  if c1 then
  some 5
  else
  Hq (fun (c2 : Bool) =>
  if c2 then
  some 7
  else
  if decide (100 < (y1.Clubs.length : Int)) then
  some 2
  else
  Hq (if (((decide (y1.Young < 0)) || (decide (y1.Old < y1.Young))) || (decide (150 < y1.Old))) then
  some 1
  else
  Ir p_l j1 ys1 (i1 + 1)) (fun j4 =>
  Iq y1 j4 y1.Clubs 0)) (fun j3 =>
  if (decide (0 < (i1 : Int))) then Chk (inB (W ((i1 : Int) - 1)) p_l.length) (
  j3 ((decide (0 < (i1 : Int))) && (Vc y1.Key ((nth p_l (W ((i1 : Int) - 1))).Key) || decide (y1.Key = ((nth p_l (W ((i1 : Int) - 1))).Key))))) else j3 ((decide (0 < (i1 : Int))) && true))) (fun j2 =>
  if (!r2) then j2 ((!r2) || true) else Option.bind (Jh y1.Race) (fun r3 =>
  j2 ((!r2) || (!r3)))))
def Px (p_l : List Pc) : Option Int :=
  if decide (50 < (p_l.length : Int)) then
  some 2
  else
  Hq (some 0) (fun j1 =>
  Ir p_l j1 p_l 0)
def Ql (p_x : Hz) : Option Int :=
  Hq (some 0) (fun j1 =>
  if !(Oh p_x.At) then
  some 1
  else
  if !(En p_x.Kind 1 3) then
  some 4
  else
  Option.bind (Jh p_x.Id) (fun r1 =>
  if !r1 then
  some 5
  else
  Hq (j1) (fun j2 =>
  if !decide (p_x.Kind = 1) then
  if !decide (p_x = (Hz.mk p_x.At p_x.Kind p_x.Id Eo Eo Eo 0 0)) then
  some 3
  else
  j2
  else
  Option.bind (Jh p_x.Who) (fun r2 =>
  Hq (fun (c1 : Bool) =>
  Hq (fun (c2 : Bool) =>
  if c2 then
  some 5
  else
  if ((!(En p_x.Age 0 150)) || (!(Mn p_x.Time))) then
  some 1
  else
  j2) (fun j4 =>
  if c1 then j4 (c1 || true) else Hq (fun (c3 : Bool) =>
  j4 (c1 || c3)) (fun j5 =>
  if (!decide (p_x.Club = Eo)) then Option.bind (Jh p_x.Club) (fun r4 =>
  j5 ((!decide (p_x.Club = Eo)) && (!r4))) else j5 ((!decide (p_x.Club = Eo)) && true)))) (fun j3 =>
  if (!r2) then j3 ((!r2) || true) else Option.bind (Jh p_x.Race) (fun r3 =>
  j3 ((!r2) || (!r3))))))))
def Qm (p_s : Hz) : Option Int :=
  Option.bind (Ql p_s) (fun r1 =>
  if !decide (r1 = 0) then
  some r1
  else
  if !decide (p_s.Kind = 1) then
  some 4
  else
  some 0)
def Tc (p_k : Pc) (p_s : Hz) : Bool :=
  (((decide (p_s.Race = p_k.Race)) && ((decide ((p_k.Clubs.length : Int) = 0)) || (Gn p_k.Clubs p_s.Club))) && (En p_s.Age p_k.Young p_k.Old))
def Lq (p_s : Hz) (j1 : (List ByteArray) → Option ((List ByteArray) × Int)) : List Pc → Nat → (List ByteArray) → Option ((List ByteArray) × Int)
  | [],_,x1=>j1 x1
  | y1 :: ys1,i1,x1=>Hq (fun (x2 : List ByteArray) =>
  Lq p_s j1 ys1 (i1 + 1) x2) (fun j2 =>
  Hq (fun (x3 : List ByteArray) =>
  j2 x3) (fun j3 =>
  if (Tc y1 p_s) then
  Chk (Pj x1.length) (
  j3 (x1 ++ [y1.Key]))
  else
  j3 x1))
def Vr (p_l : List Pc) (p_s : Hz) : Option ((List ByteArray) × Int) :=
  Option.bind (Px p_l) (fun r1 =>
  if !decide (r1 = 0) then
  some (([] : List ByteArray),r1)
  else
  Option.bind (Qm p_s) (fun r2 =>
  if !decide (r2 = 0) then
  some (([] : List ByteArray),r2)
  else
  Hq (fun (x1 : List ByteArray) =>
  some (x1,0)) (fun j1 =>
  Lq p_s j1 p_l 0 ([] : List ByteArray))))
def Nh : Option Bool :=
  Option.bind (Sc (Jj.mk 2024 3 1)) (fun r1 =>
  Option.bind (Tb [(An.mk k_a 2 10 5 0)] 0) (fun r2 =>
  Option.bind (Se [(Mq.mk k_r 3000)] k_r 6000) (fun r3 =>
  Option.bind (Vr ([(Pc.mk k_k k_r ([] : List ByteArray) 0 9)] : List Pc) (Hz.mk 0 1 k_i k_a Eo k_r 0 5)) (fun r4 =>
  some (((((decide ((Fm [r1.2,r2.2,r3.2,r4.2]) = 0)) && (decide (r1.1 = 60))) && (decide (r2.1 = 25))) && (decide (r3.1 = 125))) && (decide ((r4.1.length : Int) = 1)))))))
def Gj (r1 : (List An) × Int) (j1 : (List ByteArray) → Option Bool) : List Int → Nat → (List ByteArray) → Option Bool
  | [],_,x1=>j1 x1
  | y1 :: ys1,i1,x1=>Chk (inB y1 r1.1.length) (
  Chk (Pj x1.length) (
  Gj r1 j1 ys1 (i1 + 1) (x1 ++ [(nth r1.1 y1).Key])))
def Le (p_l : List Int) : Option Bool :=
  Option.bind (Me p_l 0 4) (fun r1 =>
  Option.bind (Mf p_l r1.2 r1.1) (fun r2 =>
  Option.bind (On p_l r2.2 0 200) (fun r3 =>
  Option.bind (Pd r1.1 r2.1 r3.1) (fun r4 =>
  Option.bind (Ml r1.1 r4.1) (fun r5 =>
  if ((!decide ((Fm [r4.2.2,r5.2]) = 0)) || (!decide ((r5.1.length : Int) = (r1.1.length : Int)))) then
  some false
  else
  Option.bind (Mm r5.1 r2.1 0 r3.1) (fun r6 =>
  Option.bind (Pv p_l r3.2 (r1.1.length : Int)) (fun r7 =>
  Hq (fun (x1 : List ByteArray) =>
  Option.bind (Ml r1.1 x1) (fun r8 =>
  Option.bind (Mm r8.1 r2.1 0 r3.1) (fun r9 =>
  Hq (fun (c1 : Bool) =>
  some c1) (fun j2 =>
  if (((decide ((Fm [r6.2,r8.2,r9.2]) = 0)) && (decide ((r6.1.length : Int) = r4.2.1))) && (decide (r4.2.1 ≤ (r9.1.length : Int)))) then Option.bind (Nh) (fun r10 =>
  j2 ((((decide ((Fm [r6.2,r8.2,r9.2]) = 0)) && (decide ((r6.1.length : Int) = r4.2.1))) && (decide (r4.2.1 ≤ (r9.1.length : Int)))) && r10)) else j2 ((((decide ((Fm [r6.2,r8.2,r9.2]) = 0)) && (decide ((r6.1.length : Int) = r4.2.1))) && (decide (r4.2.1 ≤ (r9.1.length : Int)))) && true))))) (fun j1 =>
  Gj r1 j1 r7.1 0 ([] : List ByteArray)))))))))
theorem twin_eqs : True:=by
  have h:=@Ht.eq_def; clear h; have h:=@Ht.eq_1; clear h; have h:=@Ht.eq_2; clear h
  have h:=@Ek.eq_def; clear h; have h:=@Ek.eq_1; clear h; have h:=@Ek.eq_2; clear h
  have h:=@Ep.eq_def; clear h; have h:=@Ep.eq_1; clear h; have h:=@Ep.eq_2; clear h
  have h:=@Ey.eq_def; clear h; have h:=@Ey.eq_1; clear h; have h:=@Ey.eq_2; clear h
  have h:=@Hu.eq_def; clear h; have h:=@Hu.eq_1; clear h; have h:=@Hu.eq_2; clear h
  have h:=@Hd.eq_def; clear h; have h:=@Hd.eq_1; clear h; have h:=@Hd.eq_2; clear h
  have h:=@Hl.eq_def; clear h; have h:=@Hl.eq_1; clear h; have h:=@Hl.eq_2; clear h
  have h:=@Ex.eq_def; clear h; have h:=@Ex.eq_1; clear h; have h:=@Ex.eq_2; clear h
  have h:=@Kg.eq_def; clear h; have h:=@Kg.eq_1; clear h; have h:=@Kg.eq_2; clear h
  have h:=@Hm.eq_def; clear h; have h:=@Hm.eq_1; clear h; have h:=@Hm.eq_2; clear h
  have h:=@He.eq_def; clear h; have h:=@He.eq_1; clear h; have h:=@He.eq_2; clear h
  have h:=@Hf.eq_def; clear h; have h:=@Hf.eq_1; clear h; have h:=@Hf.eq_2; clear h
  have h:=@El.eq_def; clear h; have h:=@El.eq_1; clear h; have h:=@El.eq_2; clear h
  have h:=@Es.eq_def; clear h; have h:=@Es.eq_1; clear h; have h:=@Es.eq_2; clear h
  have h:=@Fa.eq_def; clear h; have h:=@Fa.eq_1; clear h; have h:=@Fa.eq_2; clear h
  have h:=@Fx.eq_def; clear h; have h:=@Fx.eq_1; clear h; have h:=@Fx.eq_2; clear h
  have h:=@Hg.eq_def; clear h; have h:=@Hg.eq_1; clear h; have h:=@Hg.eq_2; clear h
  have h:=@Hh.eq_def; clear h; have h:=@Hh.eq_1; clear h; have h:=@Hh.eq_2; clear h
  have h:=@Kh.eq_def; clear h; have h:=@Kh.eq_1; clear h; have h:=@Kh.eq_2; clear h
  have h:=@Ki.eq_def; clear h; have h:=@Ki.eq_1; clear h; have h:=@Ki.eq_2; clear h
  have h:=@Kj.eq_def; clear h; have h:=@Kj.eq_1; clear h; have h:=@Kj.eq_2; clear h
  have h:=@Kk.eq_def; clear h; have h:=@Kk.eq_1; clear h; have h:=@Kk.eq_2; clear h
  have h:=@Io.eq_def; clear h; have h:=@Io.eq_1; clear h; have h:=@Io.eq_2; clear h
  have h:=@Ic.eq_def; clear h; have h:=@Ic.eq_1; clear h; have h:=@Ic.eq_2; clear h
  have h:=@Hc.eq_def; clear h; have h:=@Hc.eq_1; clear h; have h:=@Hc.eq_2; clear h
  have h:=@Je.eq_def; clear h; have h:=@Je.eq_1; clear h; have h:=@Je.eq_2; clear h
  have h:=@Hj.eq_def; clear h; have h:=@Hj.eq_1; clear h; have h:=@Hj.eq_2; clear h
  have h:=@Hv.eq_def; clear h; have h:=@Hv.eq_1; clear h; have h:=@Hv.eq_2; clear h
  have h:=@Em.eq_def; clear h; have h:=@Em.eq_1; clear h; have h:=@Em.eq_2; clear h
  have h:=@Et.eq_def; clear h; have h:=@Et.eq_1; clear h; have h:=@Et.eq_2; clear h
  have h:=@Fb.eq_def; clear h; have h:=@Fb.eq_1; clear h; have h:=@Fb.eq_2; clear h
  have h:=@Jp.eq_def; clear h; have h:=@Jp.eq_1; clear h; have h:=@Jp.eq_2; clear h
  have h:=@Jg.eq_def; clear h; have h:=@Jg.eq_1; clear h; have h:=@Jg.eq_2; clear h
  have h:=@Hk.eq_def; clear h; have h:=@Hk.eq_1; clear h; have h:=@Hk.eq_2; clear h
  have h:=@Fh.eq_def; clear h; have h:=@Fh.eq_1; clear h; have h:=@Fh.eq_2; clear h
  have h:=@Ez.eq_def; clear h; have h:=@Ez.eq_1; clear h; have h:=@Ez.eq_2; clear h
  have h:=@Jb.eq_def; clear h; have h:=@Jb.eq_1; clear h; have h:=@Jb.eq_2; clear h
  have h:=@Jc.eq_def; clear h; have h:=@Jc.eq_1; clear h; have h:=@Jc.eq_2; clear h
  have h:=@Kb.eq_def; clear h; have h:=@Kb.eq_1; clear h; have h:=@Kb.eq_2; clear h
  have h:=@Kc.eq_def; clear h; have h:=@Kc.eq_1; clear h; have h:=@Kc.eq_2; clear h
  have h:=@Kd.eq_def; clear h; have h:=@Kd.eq_1; clear h; have h:=@Kd.eq_2; clear h
  have h:=@Ji.eq_def; clear h; have h:=@Ji.eq_1; clear h; have h:=@Ji.eq_2; clear h
  have h:=@Ke.eq_def; clear h; have h:=@Ke.eq_1; clear h; have h:=@Ke.eq_2; clear h
  have h:=@Lo.eq_def; clear h; have h:=@Lo.eq_1; clear h; have h:=@Lo.eq_2; clear h
  have h:=@Lp.eq_def; clear h; have h:=@Lp.eq_1; clear h; have h:=@Lp.eq_2; clear h
  have h:=@Iq.eq_def; clear h; have h:=@Iq.eq_1; clear h; have h:=@Iq.eq_2; clear h
  have h:=@Ir.eq_def; clear h; have h:=@Ir.eq_1; clear h; have h:=@Ir.eq_2; clear h
  have h:=@Lq.eq_def; clear h; have h:=@Lq.eq_1; clear h; have h:=@Lq.eq_2; clear h
  have h:=@Gj.eq_def; clear h; have h:=@Gj.eq_1; clear h; have h:=@Gj.eq_2; clear h
  have h:=@Lx.eq_def; clear h; have h:=@Lx.eq_1; clear h; have h:=@Lx.eq_2; clear h
  trivial
end Go.Proofs.YtombbefepcipcaaGreatDoor
