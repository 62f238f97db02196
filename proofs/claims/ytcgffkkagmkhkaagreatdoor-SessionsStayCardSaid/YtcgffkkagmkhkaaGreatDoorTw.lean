/- The Go functions as plain Lean functions,by program. -/
import Derived.Test.YtcgffkkagmkhkaaGreatDoorBase
namespace Go.Proofs.YtcgffkkagmkhkaaGreatDoor
open Go
structure GP where
  L : List Int
  at_ : Int
  deriving DecidableEq,Inhabited
structure Ed where
  Key : ByteArray
  Heats : Int
  Long : Int
  Gap : Int
  Break : Int
  deriving DecidableEq,Inhabited
structure Es where
  Who : ByteArray
  Item : ByteArray
  Heat : Int
  deriving DecidableEq,Inhabited
structure Ey where
  Item : ByteArray
  Heat : Int
  At : Int
  deriving DecidableEq,Inhabited
structure Gs where
  From : Int
  To : Int
  deriving DecidableEq,Inhabited
structure Ee where
  Item : ByteArray
  Heat : Int
  Time : Gs
  deriving DecidableEq,Inhabited
structure Gj where
  Who : ByteArray
  From : Ee
  To : Ee
  Long : Int
  deriving DecidableEq,Inhabited
structure An where
  item_ : ByteArray
  heat_ : Int
  deriving DecidableEq,Inhabited
structure Ei where
  first_ : Int
  last_ : Int
  deriving DecidableEq,Inhabited
structure Jw where
  Year : Int
  Month : Int
  Day : Int
  deriving DecidableEq,Inhabited
structure Ns where
  Race : ByteArray
  Time : Int
  deriving DecidableEq,Inhabited
structure Qd where
  Key : ByteArray
  Race : ByteArray
  Clubs : List ByteArray
  Young : Int
  Old : Int
  deriving DecidableEq,Inhabited
structure Il where
  At : Int
  Kind : Int
  Id : ByteArray
  Who : ByteArray
  Club : ByteArray
  Race : ByteArray
  Age : Int
  Time : Int
  deriving DecidableEq,Inhabited
def En : ByteArray:=⟨#[]⟩
def Uo : ByteArray:=⟨#[105,99]⟩
def Up : ByteArray:=⟨#[105,97]⟩
def Uq : ByteArray:=⟨#[105,100]⟩
def Ur : ByteArray:=⟨#[105,98]⟩
def Wl : ByteArray:=⟨#[105,101]⟩
def Pi : ByteArray:=⟨#[97,110,110]⟩
def Pj : ByteArray:=⟨#[98,101,97]⟩
def Pk : ByteArray:=⟨#[99,105,100]⟩
def Mg : ByteArray:=⟨#[0,1,2,2,3,3,3,3,4,4,4,4,4,4,4,4,5,5,5,5,5,5,5,5,5,5,5,5,5,5,5,5,6,6,6,6,6,6,6,6,6,6,6,6,6,6,6,6,6,6,6,6,6,6,6,6,6,6,6,6,6,6,6,6,7,7,7,7,7,7,7,7,7,7,7,7,7,7,7,7,7,7,7,7,7,7,7,7,7,7,7,7,7,7,7,7,7,7,7,7,7,7,7,7,7,7,7,7,7,7,7,7,7,7,7,7,7,7,7,7,7,7,7,7,7,7,7,7,8,8,8,8,8,8,8,8,8,8,8,8,8,8,8,8,8,8,8,8,8,8,8,8,8,8,8,8,8,8,8,8,8,8,8,8,8,8,8,8,8,8,8,8,8,8,8,8,8,8,8,8,8,8,8,8,8,8,8,8,8,8,8,8,8,8,8,8,8,8,8,8,8,8,8,8,8,8,8,8,8,8,8,8,8,8,8,8,8,8,8,8,8,8,8,8,8,8,8,8,8,8,8,8,8,8,8,8,8,8,8,8,8,8,8,8,8,8,8,8,8,8,8,8,8,8,8,8]⟩
def DK : ByteArray:=⟨#[122,122]⟩
def Oh : ByteArray:=⟨#[97,98,99,100,101,102,103,104,105,106,107,108,109,110,111,112,113,114,115,116,117,118,119,120,121,122,48,49,50,51,52,53,54,55,56,57,45,95]⟩
def k_a : ByteArray:=⟨#[97]⟩
def k_r : ByteArray:=⟨#[114]⟩
def k_k : ByteArray:=⟨#[107]⟩
def k_i : ByteArray:=⟨#[105]⟩
def Mu (p_x : Int) (p_n : Int) : Option Int :=
  if decide (p_n < 1) then
  some 0
  else
  Chk (!decide (p_n = 0)) (
  Ha (fun (x1 : Int) =>
  some x1) (fun j1 =>
  if decide ((Int.tmod p_x p_n) < 0) then
  j1 (W ((Int.tmod p_x p_n) + p_n))
  else
  j1 (Int.tmod p_x p_n)))
def Li (p_s_L : List Int) (p_s_at : Int) (p_n : Int) : Option (Int × Int) :=
  if decide ((p_s_L.length : Int) = 0) then
  Option.bind (Mu (W ((W (p_s_at + 1)) * 7919)) p_n) (fun r1 =>
  some (r1,W (p_s_at + 1)))
  else
  Chk (!decide ((p_s_L.length : Int) = 0)) (
  Chk (!decide ((p_s_L.length : Int) = 0)) (
  Chk (inB (Int.tmod (W ((W (p_s_at + 1)) - 1)) (p_s_L.length : Int)) p_s_L.length) (
  Option.bind (Mu (nth p_s_L (Int.tmod (W ((W (p_s_at + 1)) - 1)) (p_s_L.length : Int))) 1073741824) (fun r2 =>
  Option.bind (Mu (W (r2 + (W ((W (Int.tdiv (W ((W (p_s_at + 1)) - 1)) (p_s_L.length : Int))) * (W (7919 + (Int.tmod (W ((W (p_s_at + 1)) - 1)) (p_s_L.length : Int)))))))) p_n) (fun r3 =>
  some (r3,W (p_s_at + 1)))))))
def Lo (p_s_L : List Int) (p_s_at : Int) (p_n : Int) : Option (Bool × Int) :=
  Option.bind (Li p_s_L p_s_at p_n) (fun r1 =>
  some (decide (r1.1 = 0),r1.2))
def Lp (p_s_L : List Int) (p_s_at : Int) (p_l : List Int) : Option (Int × Int) :=
  Option.bind (Li p_s_L p_s_at (p_l.length : Int)) (fun r1 =>
  Chk (inB r1.1 p_l.length) (
  some ((nth p_l r1.1),r1.2)))
def Ia (p_s_L : List Int) (j1 : (List Ed) → Int → Option ((List Ed) × Int)) : List ByteArray → Nat → (List Ed) → Int → Option ((List Ed) × Int)
  | [],_,x1,x2=>j1 x1 x2
  | y1 :: ys1,i1,x1,x2=>Ha (fun (x3 : List Ed) (x4 : Int) =>
  Ia p_s_L j1 ys1 (i1 + 1) x3 x4) (fun j2 =>
  Option.bind (Lo p_s_L x2 6) (fun r1 =>
  Ha (fun (x5 : List Ed) (x6 : Int) =>
  j2 x5 x6) (fun j3 =>
  if !r1.1 then
  Option.bind (Lp p_s_L r1.2 [1,1,2,3]) (fun r2 =>
  Option.bind (Lp p_s_L r2.2 [50,100]) (fun r3 =>
  Option.bind (Lp p_s_L r3.2 [0,10,60]) (fun r4 =>
  Option.bind (Lp p_s_L r4.2 [0,20,50,200]) (fun r5 =>
  Chk (Qa x1.length) (
  j3 (x1 ++ [(Ed.mk y1 r2.1 r3.1 r4.1 r5.1)]) r5.2)))))
  else
  j3 x1 r1.2)))
def Ly (p_s_L : List Int) (p_s_at : Int) (p_most : Int) : Option ((List Ed) × Int) :=
  Chk (CX 0 p_most ([Uo,Up,Uq,Ur,Wl] : List ByteArray).length) (
  Ha (fun (x1 : List Ed) (x2 : Int) =>
  some (x1,x2)) (fun j1 =>
  Ia p_s_L j1 (cut ([Uo,Up,Uq,Ur,Wl] : List ByteArray) 0 p_most) 0 ([] : List Ed) p_s_at))
def Lz (p_s : List Ed) : Option (List Ed) :=
  Chk (decide ((([] : List Ed) : List Ed).length + p_s.length < 1073741824)) (
  some ((([] : List Ed) : List Ed) ++ p_s))
def Wm (p_x : Int) : Option Int :=
  Ha (fun (x1 : Int) (x2 : Int) =>
  Ha (fun (x3 : Int) (x4 : Int) =>
  Chk (inB (IntKind.wrap .u8 x3) Mg.size) (
  some (W (x4 + (W (Zm Mg (IntKind.wrap .u8 x3))))))) (fun j2 =>
  if decide (256 ≤ x1) then
  j2 (Fx .u32 x1 8) (W (x2 + 8))
  else
  j2 x1 x2)) (fun j1 =>
  if decide (65536 ≤ p_x) then
  j1 (Fx .u32 p_x 16) 16
  else
  j1 p_x 0)
def Tw (p_x : Int) : Option Int :=
  Ha (fun (x1 : Int) (x2 : Int) =>
  Ha (fun (x3 : Int) (x4 : Int) =>
  Ha (fun (x5 : Int) (x6 : Int) =>
  Chk (inB (IntKind.wrap .u8 x5) Mg.size) (
  some (W (x6 + (W (Zm Mg (IntKind.wrap .u8 x5))))))) (fun j3 =>
  if decide (256 ≤ x3) then
  j3 (Fx .u64 x3 8) (W (x4 + 8))
  else
  j3 x3 x4)) (fun j2 =>
  if decide (65536 ≤ x1) then
  j2 (Fx .u64 x1 16) (W (x2 + 16))
  else
  j2 x1 x2)) (fun j1 =>
  if decide (4294967296 ≤ p_x) then
  j1 (Fx .u64 p_x 32) 32
  else
  j1 p_x 0)
def Sj (p_x : Int) : Option Int :=
  if false then
  Option.bind (Wm (IntKind.wrap .u32 p_x)) (fun r1 =>
  some r1)
  else
  Option.bind (Tw p_x) (fun r2 =>
  some r2)
def Ir (p_a : Ed) (p_b : Ed) : Int :=
  if Wf p_a.Key p_b.Key then
  (-1)
  else
  1
def Ep (p_a : Int) (j2 : (List Ed) → Option (List Ed)) : Nat → (List Ed) → Int → Option (List Ed)
  | 0,_,_=>none
  | m2 + 1,x3,x4=>Ha (fun (x5 : Bool) =>
  if x5 then
  Chk (inB (W (x4 - 1)) x3.length) (
  Chk (inB x4 x3.length) (
  Chk (inB x4 x3.length) (
  Chk (inB (W (x4 - 1)) (x3.set x4.toNat (nth x3 (W (x4 - 1)))).length) (
  Ep p_a j2 m2 ((x3.set x4.toNat (nth x3 (W (x4 - 1)))).set ((W (x4 - 1)).toNat) (nth x3 x4)) (W (x4 - 1))))))
  else
  j2 x3) (fun j3 =>
  if decide (p_a < x4) then
  Chk (inB x4 x3.length) (
  Chk (inB (W (x4 - 1)) x3.length) (
  j3 (decide ((Ir (nth x3 x4) (nth x3 (W (x4 - 1)))) < 0))))
  else
  j3 false)
def Ex (p_b : Int) (p_a : Int) (j1 : (List Ed) → Option (List Ed)) : Nat → (List Ed) → Int → Option (List Ed)
  | 0,_,_=>none
  | m1 + 1,x1,x2=>if decide (x2 < p_b) then
  Ha (fun (x3 : List Ed) =>
  Ex p_b p_a j1 m1 x3 (W (x2 + 1))) (fun j2 =>
  Ep p_a j2 ((x2 - p_a).toNat + 2) x1 x2)
  else
  j1 x1
def Gi (p_data : List Ed) (p_a : Int) (p_b : Int) : Option (List Ed) :=
  Ha (fun (x1 : List Ed) =>
  some x1) (fun j1 =>
  Ex p_b p_a j1 ((p_b - (W (p_a + 1))).toNat + 2) p_data (W (p_a + 1)))
def Fl (p_data : List Ed) : Nat → Int → Int → Int → Bool → Option (List Ed)
  | 0,_,_,_,_=>none
  | _ + 1,x1,x2,x3,x4=>if decide ((W (x2 - x1)) ≤ 12) then
  Option.bind (Gi p_data x1 x2) (fun r1 =>
  some r1)
  else
  if decide (x3 = 0) then
  none
  else
  if !x4 then
  none
  else
  none
def Hg (p_data : List Ed) (p_a : Int) (p_b : Int) (p_limit : Int) : Option (List Ed) :=
  Fl p_data 4611686018427387904 p_a p_b p_limit true
def Hd (p_x : List Ed) : Option (List Ed) :=
  Option.bind (Sj (IntKind.wrap .u64 (p_x.length : Int))) (fun r1 =>
  Option.bind (Hg p_x 0 (p_x.length : Int) r1) (fun r2 =>
  some r2))
def Oi (p_s_L : List Int) (p_s_at : Int) (p_low : Int) (p_high : Int) : Option (Int × Int) :=
  if decide (p_high < p_low) then
  some (p_low,p_s_at)
  else
  Option.bind (Li p_s_L p_s_at (W ((W (p_high - p_low)) + 1))) (fun r1 =>
  some (W (p_low + r1.1),r1.2))
def Ib (p_s_L : List Int) (y1 : ByteArray) (j2 : (List Es) → Int → Option ((List Es) × Int)) : List Ed → Nat → (List Es) → Int → Option ((List Es) × Int)
  | [],_,x3,x4=>j2 x3 x4
  | y2 :: ys2,i2,x3,x4=>Ha (fun (x5 : List Es) (x6 : Int) =>
  Ib p_s_L y1 j2 ys2 (i2 + 1) x5 x6) (fun j3 =>
  Option.bind (Lo p_s_L x4 2) (fun r3 =>
  Ha (fun (x7 : List Es) (x8 : Int) =>
  j3 x7 x8) (fun j4 =>
  if (r3.1 && (decide (0 < y2.Heats))) then
  Option.bind (Oi p_s_L r3.2 1 (Tl y2.Heats 3)) (fun r4 =>
  Chk (Qa x3.length) (
  j4 (x3 ++ [(Es.mk y1 y2.Key r4.1)]) r4.2))
  else
  j4 x3 r3.2)))
def Hi (p_items : List Ed) (p_s_L : List Int) (j1 : (List Es) → Int → Option ((List Es) × Int)) : List ByteArray → Nat → (List Es) → Int → Option ((List Es) × Int)
  | [],_,x1,x2=>j1 x1 x2
  | y1 :: ys1,i1,x1,x2=>Option.bind (Lz p_items) (fun r1 =>
  Option.bind (Hd r1) (fun r2 =>
  Ha (fun (x3 : List Es) (x4 : Int) =>
  Hi p_items p_s_L j1 ys1 (i1 + 1) x3 x4) (fun j2 =>
  Ib p_s_L y1 j2 r2 0 x1 x2)))
def Ma (p_s_L : List Int) (p_s_at : Int) (p_items : List Ed) : Option ((List Es) × Int) :=
  Ha (fun (x1 : List Es) (x2 : Int) =>
  some (x1,x2)) (fun j1 =>
  Hi p_items p_s_L j1 ([Pi,Pj,Pk] : List ByteArray) 0 ([] : List Es) p_s_at)
def Pl (p_s_L : List Int) (p_s_at : Int) (p_l : List ByteArray) : Option (ByteArray × Int) :=
  Option.bind (Li p_s_L p_s_at (p_l.length : Int)) (fun r1 =>
  Chk (inB r1.1 p_l.length) (
  some ((nth p_l r1.1),r1.2)))
def Me (p_s_L : List Int) (p_s_at : Int) (p_low : Int) (p_high : Int) : Option (Int × Int) :=
  Option.bind (Lo p_s_L p_s_at 12) (fun r1 =>
  if r1.1 then
  Option.bind (Lp p_s_L r1.2 [W (p_low - 1),W (p_high + 1),p_low,p_high,(-1099511627776),1099511627776]) (fun r2 =>
  some (r2.1,r2.2))
  else
  Option.bind (Oi p_s_L r1.2 p_low p_high) (fun r3 =>
  some (r3.1,r3.2)))
def Kc (y1 : Ed) (p_s_L : List Int) (j2 : (List Ey) → Int → Int → Option ((List Ey) × Int)) : Nat → (List Ey) → Int → Int → Int → Option ((List Ey) × Int)
  | 0,_,_,_,_=>none
  | m1 + 1,x4,x5,x6,x7=>if decide (x7 ≤ (Tl y1.Heats 3)) then
  Ha (fun (x8 : List Ey) (x9 : Int) (x10 : Int) =>
  Kc y1 p_s_L j2 m1 x8 x9 x10 (W (x7 + 1))) (fun j3 =>
  Option.bind (Lp p_s_L x5 [0,50,100,200]) (fun r1 =>
  Option.bind (Lo p_s_L r1.2 3) (fun r2 =>
  Ha (fun (x11 : List Ey) =>
  j3 x11 r2.2 (W (x6 + r1.1))) (fun j4 =>
  if r2.1 then
  Chk (Qa x4.length) (
  j4 (x4 ++ [(Ey.mk y1.Key x7 (W (x6 + r1.1)))]))
  else
  j4 x4))))
  else
  j2 x4 x5 x6
def Jo (p_s_L : List Int) (j1 : (List Ey) → Int → Option ((List Ey) × Int)) : List Ed → Nat → (List Ey) → Int → Int → Option ((List Ey) × Int)
  | [],_,x1,x2,_=>j1 x1 x2
  | y1 :: ys1,i1,x1,x2,x3=>Ha (fun (x4 : List Ey) (x5 : Int) (x6 : Int) =>
  Jo p_s_L j1 ys1 (i1 + 1) x4 x5 x6) (fun j2 =>
  Kc y1 p_s_L j2 (((Tl y1.Heats 3) - 1).toNat + 2) x1 x2 x3 1)
def Pr (p_s_L : List Int) (p_s_at : Int) (p_items : List Ed) : Option ((List Ey) × Int) :=
  Ha (fun (x1 : List Ey) (x2 : Int) =>
  Ha (fun (x12 : Int) (x13 : Bool) =>
  Ha (fun (x14 : List Ey) (x15 : Int) =>
  some (x14,x15)) (fun j6 =>
  if x13 then
  Option.bind (Li p_s_L x12 (x1.length : Int)) (fun r4 =>
  Chk (inB r4.1 x1.length) (
  Option.bind (Pl p_s_L r4.2 [(nth x1 r4.1).Item,DK]) (fun r5 =>
  Option.bind (Me p_s_L r5.2 1 3) (fun r6 =>
  Option.bind (Me p_s_L r6.2 0 500) (fun r7 =>
  j6 (((x1.set r4.1.toNat (Ey.mk r5.1 ((nth x1 r4.1).Heat) ((nth x1 r4.1).At))).set r4.1.toNat (Ey.mk r5.1 r6.1 ((nth x1 r4.1).At))).set r4.1.toNat (Ey.mk r5.1 r6.1 r7.1)) r7.2)))))
  else
  j6 x1 x12)) (fun j5 =>
  if (decide (0 < (x1.length : Int))) then
  Option.bind (Lo p_s_L x2 12) (fun r3 =>
  j5 r3.2 r3.1)
  else
  j5 x2 false)) (fun j1 =>
  Jo p_s_L j1 p_items 0 ([] : List Ey) p_s_at 0)
def Tx (s c : ByteArray) : Option ByteArray :=
  Chk (decide (s.size ≤ 9223372036854775807)) (Chk (decide (c.size < 4294967281)) (Chk (c.data.toList.all fun b=>decide (b.toNat < 128)) (some ⟨(Lib.trimS s.data.toList c.data.toList).toArray⟩)))
def Js (p_s : ByteArray) : Option Bool :=
  Ha (fun (c1 : Bool) =>
  Ha (fun (c2 : Bool) =>
  Ha (fun (c3 : Bool) =>
  some c3) (fun j3 =>
  if c2 then Option.bind (Tx p_s Oh) (fun r1 =>
  j3 (c2 && (decide (r1 = En)))) else j3 (c2 && true))) (fun j2 =>
  if c1 then Chk (inB 0 p_s.size) (
  j2 (c1 && (decide ((Zm p_s 0) ≤ 122)))) else j2 (c1 && true))) (fun j1 =>
  if ((decide (1 ≤ (p_s.size : Int))) && (decide ((p_s.size : Int) ≤ 40))) then Chk (inB 0 p_s.size) (
  j1 (((decide (1 ≤ (p_s.size : Int))) && (decide ((p_s.size : Int) ≤ 40))) && (decide (97 ≤ (Zm p_s 0))))) else j1 (((decide (1 ≤ (p_s.size : Int))) && (decide ((p_s.size : Int) ≤ 40))) && true))
def Ev (p_n : Int) (p_low : Int) (p_high : Int) : Bool :=
  ((decide (p_low ≤ p_n)) && (decide (p_n ≤ p_high)))
def Hs (j1 : (List (ByteArray × Bool)) → Option Int) : List Ed → Nat → (List (ByteArray × Bool)) → Option Int
  | [],_,x1=>j1 x1
  | y1 :: ys1,i1,x1=>Option.bind (Js y1.Key) (fun r1 =>
  if !r1 then
  some 5
  else
  if Jj x1 y1.Key false then
  some 6
  else
  if ((((!(Ev y1.Heats 1 60)) || (!(Ev y1.Long 1 3600000))) || (!(Ev y1.Gap 0 3600000))) || (!(Ev y1.Break 0 3600000))) then
  some 1
  else
  Hs j1 ys1 (i1 + 1) (Nz x1 y1.Key true))
def Ik (p_l : List Ed) : Option Int :=
  if decide (100 < (p_l.length : Int)) then
  some 2
  else
  Ha (fun (x1 : List (ByteArray × Bool)) =>
  some 0) (fun j1 =>
  Hs j1 p_l 0 ([] : List (ByteArray × Bool)))
def It (p_n : Int) : Bool :=
  ((decide (0 ≤ p_n)) && (decide (p_n < 345686400000)))
def Hj (y1 : Ed) (j2 : (List Ee) → Int → Option (List Ee)) : Nat → (List Ee) → Int → Int → Option (List Ee)
  | 0,_,_,_=>none
  | m1 + 1,x3,x4,x5=>if decide (x5 ≤ y1.Heats) then
  Ha (fun (x6 : List Ee) (x7 : Int) =>
  Hj y1 j2 m1 x6 x7 (W (x5 + 1))) (fun j3 =>
  Chk (Qa x3.length) (
  Ha (fun (x8 : Int) =>
  j3 (x3 ++ [(Ee.mk y1.Key x5 (Gs.mk x4 (W (x4 + y1.Long))))]) x8) (fun j4 =>
  if decide (x5 < y1.Heats) then
  j4 (W ((W (x4 + y1.Long)) + y1.Gap))
  else
  j4 (W (x4 + y1.Long)))))
  else
  j2 x3 x4
def Hk (j1 : (List Ee) → Option (List Ee)) : List Ed → Nat → (List Ee) → Int → Option (List Ee)
  | [],_,x1,_=>j1 x1
  | y1 :: ys1,i1,x1,x2=>Ha (fun (x3 : List Ee) (x4 : Int) =>
  Hk j1 ys1 (i1 + 1) x3 (W (x4 + y1.Break))) (fun j2 =>
  Hj y1 j2 ((y1.Heats - 1).toNat + 2) x1 x2 1)
def Lf (p_l : List Ed) (p_from : Int) : Option (List Ee) :=
  Ha (fun (x1 : List Ee) =>
  some x1) (fun j1 =>
  Hk j1 p_l 0 ([] : List Ee) p_from)
def Oc (p_l : List Ee) (p_from : Int) : Option Int :=
  if decide ((p_l.length : Int) = 0) then
  some p_from
  else
  Chk (inB (W ((p_l.length : Int) - 1)) p_l.length) (
  some (((nth p_l (W ((p_l.length : Int) - 1))).Time).To))
def Ow (p_l : List Ed) (p_from : Int) : Option ((List Ee) × Int) :=
  if !(It p_from) then
  some (([] : List Ee),1)
  else
  Option.bind (Lf p_l p_from) (fun r1 =>
  Option.bind (Oc r1 p_from) (fun r2 =>
  if decide (345686400000 < r2) then
  some (([] : List Ee),1)
  else
  some (r1,0)))
def Mb (p_l : List Ed) (p_from : Int) : Option ((List Ee) × Int) :=
  Option.bind (Ik p_l) (fun r1 =>
  if !decide (r1 = 0) then
  some (([] : List Ee),r1)
  else
  Option.bind (Ow p_l p_from) (fun r2 =>
  some (r2.1,r2.2)))
def Hn (j1 : (List Ee) → Option (List Ee)) : List Ee → Nat → (List Ee) → Option (List Ee)
  | [],_,x1=>j1 x1
  | _ :: ys1,i1,x1=>Chk (inB (i1 : Int) x1.length) (
  Hn j1 ys1 (i1 + 1) (x1.set ((i1 : Int).toNat) (Ee.mk En 0 (Gs.mk 0 0))))
def Kp (p_l : List Ee) : Option (List Ee) :=
  Ha (fun (x1 : List Ee) =>
  some x1) (fun j1 =>
  Hn j1 p_l 0 p_l)
def Pc (p_x : Ed) (p_a1 : ByteArray) : Bool :=
  decide (p_x.Key = p_a1)
def Fi (p_f_0 : ByteArray) (j1 : Int) : List Ed → Nat → Int
  | [],_=>j1
  | y1 :: ys1,i1=>if (Pc y1 p_f_0) then
  (i1 : Int)
  else
  Fi p_f_0 j1 ys1 (i1 + 1)
def Im (p_s : List Ed) (p_f_0 : ByteArray) : Int :=
  Ha ((-1)) (fun j1 =>
  Fi p_f_0 j1 p_s 0)
def Ef (p_l : List Ed) (p_key : ByteArray) : Int :=
  (Im p_l p_key)
def Ii (s t : ByteArray) : Int:=Lib.compareBytes s.data.toList t.data.toList
def Ox (p_x : Int) : Bool :=
  !decide (p_x = p_x)
def Gg (p_x : Int) (p_y : Int) : Int :=
  if (Ox p_x) then
  if (Ox p_y) then
  0
  else
  (-1)
  else
  if (Ox p_y) then
  1
  else
  if decide (p_x < p_y) then
  (-1)
  else
  if decide (p_y < p_x) then
  1
  else
  0
def Ky (j1 : Int) : List Int → Nat → Int
  | [],_=>j1
  | y1 :: ys1,i1=>if !decide (y1 = 0) then
  y1
  else
  Ky j1 ys1 (i1 + 1)
def Nm (p_vals : List Int) : Int :=
  Ha (0) (fun j1 =>
  Ky j1 p_vals 0)
def Kq (p_a : Es) (p_b : Es) : Int :=
  (Nm [(Ii p_a.Who p_b.Who),(Ii p_a.Item p_b.Item),(Gg p_a.Heat p_b.Heat)])
def Ht (p_items : List Ed) (p_l : List Es) (j1 : Option Int) : List Es → Nat → Option Int
  | [],_=>j1
  | y1 :: ys1,i1=>Option.bind (Js y1.Who) (fun r2 =>
  if !r2 then
  some 5
  else
  if decide ((Ef p_items y1.Item) < 0) then
  some 8
  else
  Chk (inB (Ef p_items y1.Item) p_items.length) (
  if !(Ev y1.Heat 1 ((nth p_items (Ef p_items y1.Item)).Heats)) then
  some 1
  else
  Ha (fun (x1 : Bool) =>
  if x1 then
  some 7
  else
  Ht p_items p_l j1 ys1 (i1 + 1)) (fun j2 =>
  if decide (0 < (i1 : Int)) then
  Chk (inB (W ((i1 : Int) - 1)) p_l.length) (
  j2 (decide (0 ≤ (Kq (nth p_l (W ((i1 : Int) - 1))) y1))))
  else
  j2 false)))
def Ko (p_items : List Ed) (p_l : List Es) : Option Int :=
  Option.bind (Ik p_items) (fun r1 =>
  if !decide (r1 = 0) then
  some r1
  else
  if decide (2000 < (p_l.length : Int)) then
  some 2
  else
  Ha (some 0) (fun j1 =>
  Ht p_items p_l j1 p_l 0))
def Ie (j1 : (List (An × Ee)) → (List (An × Ee))) : List Ee → Nat → (List (An × Ee)) → (List (An × Ee))
  | [],_,x1=>j1 x1
  | y1 :: ys1,i1,x1=>Ie j1 ys1 (i1 + 1) (Nz x1 (An.mk y1.Item y1.Heat) y1)
def Jq (p_t : List Ee) : (List (An × Ee)) :=
  Ha (fun (x1 : List (An × Ee)) =>
  x1) (fun j1 =>
  Ie j1 p_t 0 ([] : List (An × Ee)))
def Kf (p_a : Ee) (p_b : Ee) : Int :=
  (Gg p_a.Time.From p_b.Time.From)
def Et (p_a : Int) (j2 : (List Ee) → Option (List Ee)) : Nat → (List Ee) → Int → Option (List Ee)
  | 0,_,_=>none
  | m2 + 1,x3,x4=>Ha (fun (x5 : Bool) =>
  if x5 then
  Chk (inB (W (x4 - 1)) x3.length) (
  Chk (inB x4 x3.length) (
  Chk (inB x4 x3.length) (
  Chk (inB (W (x4 - 1)) (x3.set x4.toNat (Ee.mk ((nth x3 (W (x4 - 1))).Item) ((nth x3 (W (x4 - 1))).Heat) ((nth x3 (W (x4 - 1))).Time))).length) (
  Et p_a j2 m2 ((x3.set x4.toNat (Ee.mk ((nth x3 (W (x4 - 1))).Item) ((nth x3 (W (x4 - 1))).Heat) ((nth x3 (W (x4 - 1))).Time))).set ((W (x4 - 1)).toNat) (Ee.mk ((nth x3 x4).Item) ((nth x3 x4).Heat) ((nth x3 x4).Time))) (W (x4 - 1))))))
  else
  j2 x3) (fun j3 =>
  if decide (p_a < x4) then
  Chk (inB x4 x3.length) (
  Chk (inB (W (x4 - 1)) x3.length) (
  j3 (decide ((Kf (Ee.mk ((nth x3 x4).Item) ((nth x3 x4).Heat) ((nth x3 x4).Time)) (Ee.mk ((nth x3 (W (x4 - 1))).Item) ((nth x3 (W (x4 - 1))).Heat) ((nth x3 (W (x4 - 1))).Time))) < 0))))
  else
  j3 false)
def Ez (p_b : Int) (p_a : Int) (j1 : (List Ee) → Option (List Ee)) : Nat → (List Ee) → Int → Option (List Ee)
  | 0,_,_=>none
  | m1 + 1,x1,x2=>if decide (x2 < p_b) then
  Ha (fun (x3 : List Ee) =>
  Ez p_b p_a j1 m1 x3 (W (x2 + 1))) (fun j2 =>
  Et p_a j2 ((x2 - p_a).toNat + 2) x1 x2)
  else
  j1 x1
def Gl (p_data : List Ee) (p_a : Int) (p_b : Int) : Option (List Ee) :=
  Ha (fun (x1 : List Ee) =>
  some x1) (fun j1 =>
  Ez p_b p_a j1 ((p_b - (W (p_a + 1))).toNat + 2) p_data (W (p_a + 1)))
def Fp (p_data : List Ee) : Nat → Int → Int → Int → Bool → Option (List Ee)
  | 0,_,_,_,_=>none
  | _ + 1,x1,x2,x3,x4=>if decide ((W (x2 - x1)) ≤ 12) then
  Option.bind (Gl p_data x1 x2) (fun r1 =>
  some r1)
  else
  if decide (x3 = 0) then
  none
  else
  if !x4 then
  none
  else
  none
def Hv (p_data : List Ee) (p_a : Int) (p_b : Int) (p_limit : Int) : Option (List Ee) :=
  Fp p_data 4611686018427387904 p_a p_b p_limit true
def Gp (p_x : List Ee) : Option (List Ee) :=
  Option.bind (Sj (IntKind.wrap .u64 (p_x.length : Int))) (fun r1 =>
  Option.bind (Hv p_x 0 (p_x.length : Int) r1) (fun r2 =>
  some r2))
def Kg (p_who : ByteArray) (p_at : List (An × Ee)) (j1 : (List Ee) → Option (List Ee)) : List Es → Nat → (List Ee) → Option (List Ee)
  | [],_,x1=>j1 x1
  | y1 :: ys1,i1,x1=>Ha (fun (x2 : List Ee) =>
  Kg p_who p_at j1 ys1 (i1 + 1) x2) (fun j2 =>
  Ha (fun (x3 : List Ee) =>
  j2 x3) (fun j3 =>
  if decide (y1.Who = p_who) then
  Chk (Qa x1.length) (
  j3 (x1 ++ [(Ee.mk ((Jj p_at (An.mk y1.Item y1.Heat) (Ee.mk En 0 (Gs.mk 0 0))).Item) ((Jj p_at (An.mk y1.Item y1.Heat) (Ee.mk En 0 (Gs.mk 0 0))).Heat) ((Jj p_at (An.mk y1.Item y1.Heat) (Ee.mk En 0 (Gs.mk 0 0))).Time))]))
  else
  j3 x1))
def Mk (p_at : List (An × Ee)) (p_l : List Es) (p_who : ByteArray) : Option (List Ee) :=
  Ha (fun (x1 : List Ee) =>
  Option.bind (Gp x1) (fun r1 =>
  some r1)) (fun j1 =>
  Kg p_who p_at j1 p_l 0 ([] : List Ee))
def Jr (r1 : (List Ee)) (y1 : Es) (j4 : (List Gj) → Option (List Gj)) : Nat → (List Gj) → Int → Option (List Gj)
  | 0,_,_=>none
  | m1 + 1,x3,x4=>if decide (x4 < (r1.length : Int)) then
  Chk (inB (W (x4 - 1)) r1.length) (
  Chk (inB x4 r1.length) (
  Chk (inB x4 r1.length) (
  Chk (inB (W (x4 - 1)) r1.length) (
  Chk (Qa x3.length) (
  Jr r1 y1 j4 m1 (x3 ++ [(Gj.mk y1.Who (Ee.mk ((nth r1 (W (x4 - 1))).Item) ((nth r1 (W (x4 - 1))).Heat) ((nth r1 (W (x4 - 1))).Time)) (Ee.mk ((nth r1 x4).Item) ((nth r1 x4).Heat) ((nth r1 x4).Time)) (W ((((nth r1 x4).Time).From) - (((nth r1 (W (x4 - 1))).Time).To))))]) (W (x4 + 1)))))))
  else
  j4 x3
def Ho (p_t : List Ee) (p_l : List Es) (j1 : (List Gj) → Option (List Gj)) : List Es → Nat → (List Gj) → Option (List Gj)
  | [],_,x1=>j1 x1
  | y1 :: ys1,i1,x1=>Ha (fun (x2 : List Gj) =>
  Ho p_t p_l j1 ys1 (i1 + 1) x2) (fun j2 =>
  Ha (fun (c1 : Bool) =>
  if c1 then
  j2 x1
  else
  Option.bind (Mk (Jq p_t) p_l y1.Who) (fun r1 =>
  Ha (fun (x3 : List Gj) =>
  j2 x3) (fun j4 =>
  Jr r1 y1 j4 (((r1.length : Int) - 1).toNat + 2) x1 1))) (fun j3 =>
  if (decide (0 < (i1 : Int))) then Chk (inB (W ((i1 : Int) - 1)) p_l.length) (
  j3 ((decide (0 < (i1 : Int))) && (decide (((nth p_l (W ((i1 : Int) - 1))).Who) = y1.Who)))) else j3 ((decide (0 < (i1 : Int))) && true)))
def Qe (p_t : List Ee) (p_l : List Es) : Option (List Gj) :=
  Ha (fun (x1 : List Gj) =>
  some x1) (fun j1 =>
  Ho p_t p_l j1 p_l 0 ([] : List Gj))
def Qf (p_items : List Ed) (p_l : List Es) (p_from : Int) : Option ((List Gj) × Int) :=
  Option.bind (Ko p_items p_l) (fun r1 =>
  if !decide (r1 = 0) then
  some (([] : List Gj),r1)
  else
  Option.bind (Ow p_items p_from) (fun r2 =>
  if !decide (r2.2 = 0) then
  some (([] : List Gj),r2.2)
  else
  Option.bind (Qe r2.1 p_l) (fun r3 =>
  some (r3,0))))
def Hp (j1 : (List Gj) → Option (List Gj)) : List Gj → Nat → (List Gj) → Option (List Gj)
  | [],_,x1=>j1 x1
  | _ :: ys1,i1,x1=>Chk (inB (i1 : Int) x1.length) (
  Hp j1 ys1 (i1 + 1) (x1.set ((i1 : Int).toNat) (Gj.mk En (Ee.mk En 0 (Gs.mk 0 0)) (Ee.mk En 0 (Gs.mk 0 0)) 0)))
def Lq (p_l : List Gj) : Option (List Gj) :=
  Ha (fun (x1 : List Gj) =>
  some x1) (fun j1 =>
  Hp j1 p_l 0 p_l)
def Kr (p_a : Ed) (p_b : Ed) : Int :=
  (Ii p_a.Key p_b.Key)
def Eu (p_a : Int) (j2 : (List Ed) → Option (List Ed)) : Nat → (List Ed) → Int → Option (List Ed)
  | 0,_,_=>none
  | m2 + 1,x3,x4=>Ha (fun (x5 : Bool) =>
  if x5 then
  Chk (inB (W (x4 - 1)) x3.length) (
  Chk (inB x4 x3.length) (
  Chk (inB x4 x3.length) (
  Chk (inB (W (x4 - 1)) (x3.set x4.toNat (nth x3 (W (x4 - 1)))).length) (
  Eu p_a j2 m2 ((x3.set x4.toNat (nth x3 (W (x4 - 1)))).set ((W (x4 - 1)).toNat) (nth x3 x4)) (W (x4 - 1))))))
  else
  j2 x3) (fun j3 =>
  if decide (p_a < x4) then
  Chk (inB x4 x3.length) (
  Chk (inB (W (x4 - 1)) x3.length) (
  j3 (decide ((Kr (nth x3 x4) (nth x3 (W (x4 - 1)))) < 0))))
  else
  j3 false)
def Fa (p_b : Int) (p_a : Int) (j1 : (List Ed) → Option (List Ed)) : Nat → (List Ed) → Int → Option (List Ed)
  | 0,_,_=>none
  | m1 + 1,x1,x2=>if decide (x2 < p_b) then
  Ha (fun (x3 : List Ed) =>
  Fa p_b p_a j1 m1 x3 (W (x2 + 1))) (fun j2 =>
  Eu p_a j2 ((x2 - p_a).toNat + 2) x1 x2)
  else
  j1 x1
def Gm (p_data : List Ed) (p_a : Int) (p_b : Int) : Option (List Ed) :=
  Ha (fun (x1 : List Ed) =>
  some x1) (fun j1 =>
  Fa p_b p_a j1 ((p_b - (W (p_a + 1))).toNat + 2) p_data (W (p_a + 1)))
def Fq (p_data : List Ed) : Nat → Int → Int → Int → Bool → Option (List Ed)
  | 0,_,_,_,_=>none
  | _ + 1,x1,x2,x3,x4=>if decide ((W (x2 - x1)) ≤ 12) then
  Option.bind (Gm p_data x1 x2) (fun r1 =>
  some r1)
  else
  if decide (x3 = 0) then
  none
  else
  if !x4 then
  none
  else
  none
def Hw (p_data : List Ed) (p_a : Int) (p_b : Int) (p_limit : Int) : Option (List Ed) :=
  Fq p_data 4611686018427387904 p_a p_b p_limit true
def Hq (p_x : List Ed) : Option (List Ed) :=
  Option.bind (Sj (IntKind.wrap .u64 (p_x.length : Int))) (fun r1 =>
  Option.bind (Hw p_x 0 (p_x.length : Int) r1) (fun r2 =>
  some r2))
def Gc (p_items : List Ed) (p_l : List Es) (p_need : Int) (j1 : Int → List (List Ei) → Option (Int × List (List Ei))) : List Es → Nat → Int → List (List Ei) → Option (Int × List (List Ei))
  | [],_,x1,x2=>j1 x1 x2
  | y1 :: ys1,i1,x1,x2=>Ha (fun (x3 : List (List Ei)) =>
  Chk (inB (W ((x3.length : Int) - 1)) x3.length) (
  Chk (inB (Ef p_items y1.Item) (nth x3 (W ((x3.length : Int) - 1))).length) (
  Ha (fun (x4 : Int) =>
  Gc p_items p_l p_need j1 ys1 (i1 + 1) x4 (x3.set (W ((x3.length : Int) - 1)).toNat ((nth x3 (W ((x3.length : Int) - 1))).set (Ef p_items y1.Item).toNat (Ei.mk (if decide ((nth (nth x3 (W ((x3.length : Int) - 1))) (Ef p_items y1.Item)).last_ = 0) then y1.Heat else (nth (nth x3 (W ((x3.length : Int) - 1))) (Ef p_items y1.Item)).first_) y1.Heat)))) (fun j3 =>
  if decide ((nth (nth x3 (W ((x3.length : Int) - 1))) (Ef p_items y1.Item)).last_ = 0) then
  j3 x1
  else
  Chk (inB (Ef p_items y1.Item) p_items.length) (
  if decide ((W ((W ((W ((W (y1.Heat - (nth (nth x3 (W ((x3.length : Int) - 1))) (Ef p_items y1.Item)).last_)) - 1)) * (nth p_items (Ef p_items y1.Item)).Long)) + (W ((W (y1.Heat - (nth (nth x3 (W ((x3.length : Int) - 1))) (Ef p_items y1.Item)).last_)) * (nth p_items (Ef p_items y1.Item)).Gap)))) < p_need) then
  j3 (W (x1 + 1))
  else
  j3 x1))))) (fun j2 =>
  Ha (fun (c1 : Bool) =>
  if c1 then
  Chk (decide (0 ≤ (p_items.length : Int)) && decide ((p_items.length : Int) < 1073741824)) (
  Chk (Qa x2.length) (
  j2 (x2 ++ [List.replicate ((p_items.length : Int).toNat) (Ei.mk 0 0)])))
  else
  j2 x2) (fun jc =>
  if decide ((i1 : Int) = 0) then
  jc (decide ((i1 : Int) = 0) || true)
  else
  Chk (inB (W ((i1 : Int) - 1)) p_l.length) (
  jc (decide ((i1 : Int) = 0) || (!decide ((nth p_l (W ((i1 : Int) - 1))).Who = y1.Who))))))
def Ng (p_items : List Ed) (p_l : List Es) (p_need : Int) : Option (Int × List (List Ei)) :=
  Ha (fun (x1 : Int) (x2 : List (List Ei))=>some (x1,x2)) (fun j1 =>
  Gc p_items p_l p_need j1 p_l 0 0 [])
def Ps (p_s : List Int) : Option (List Int) :=
  Chk (decide ((([] : List Int) : List Int).length + p_s.length < 1073741824)) (
  some ((([] : List Int) : List Int) ++ p_s))
def Ql (p_n : Int) : Option (List Int):=Chk (decide (0 ≤ p_n) && decide (p_n < 1073741824)) (some ([] : List Int))
def Hl (j1 : Int → Option (List Int)) : List (List Int) → Nat → Int → Option (List Int)
  | [],_,x1=>j1 x1
  | y1 :: ys1,i1,x1=>if decide ((W (x1 + (y1.length : Int))) < 0) then
  none
  else
  Hl j1 ys1 (i1 + 1) (W (x1 + (y1.length : Int)))
def Hm (j2 : (List Int) → Option (List Int)) : List (List Int) → Nat → (List Int) → Option (List Int)
  | [],_,x2=>j2 x2
  | y2 :: ys2,i2,x2=>Chk (decide (x2.length + y2.length < 1073741824)) (
  Hm j2 ys2 (i2 + 1) (x2 ++ y2))
def Nh (p_slices : List (List Int)) : Option (List Int) :=
  Ha (fun (x1 : Int) =>
  Option.bind (Ql x1) (fun r2 =>
  Ha (fun (x2 : List Int) =>
  some x2) (fun j2 =>
  Hm j2 p_slices 0 r2))) (fun j1 =>
  Hl j1 p_slices 0 0)
def Hy (p_x : Ed) (p_heat : Int) : Int :=
  W ((W (p_heat - 1)) * (W (p_x.Long + p_x.Gap)))
def Kz (p_now : List Int) (p_rest : List Int) (self : (List Ed) → Int → (List (List Ei)) → Int → (List Int) → Int → Int → Bool → (List Int) → (List Int) → Option ((List Int) × Int × Int × Bool)) (p_o_items : List Ed) (p_o_within : Int) (p_o_spans : List (List Ei)) (p_o_need : Int) (j1 : Int → Int → Bool → (List Int) → Option ((List Int) × Int × Int × Bool)) : List Int → Nat → Int → Int → Bool → (List Int) → Option ((List Int) × Int × Int × Bool)
  | [],_,x1,x2,x3,x4=>j1 x1 x2 x3 x4
  | y1 :: ys1,i1,x1,x2,x3,x4=>Ha (fun (x5 : Int) (x6 : Int) (x7 : Bool) (x8 : List Int) =>
  Kz p_now p_rest self p_o_items p_o_within p_o_spans p_o_need j1 ys1 (i1 + 1) x5 x6 x7 x8) (fun j2 =>
  Option.bind (Ps p_now) (fun r1 =>
  Chk (Qa r1.length) (
  Chk (CX 0 (i1 : Int) p_rest.length) (
  Chk (CX (W ((i1 : Int) + 1)) (p_rest.length : Int) p_rest.length) (
  Option.bind (Nh ([cut p_rest 0 (i1 : Int),cut p_rest (W ((i1 : Int) + 1)) p_rest.length] : List (List Int))) (fun r2 =>
  Option.bind (self p_o_items p_o_within p_o_spans p_o_need x4 x1 x2 x3 (r1 ++ [y1]) r2) (fun r3 =>
  j2 r3.2.1 r3.2.2.1 r3.2.2.2 r3.1)))))))
def La (p_o_items : List Ed) (j3 : (List Int) → Int → Option ((List Int) × Int × Int × Bool)) : List Int → Nat → (List Int) → Int → Int → Option ((List Int) × Int × Int × Bool)
  | [],_,x9,_,x11=>j3 x9 x11
  | y2 :: ys2,i2,x9,x10,_=>Chk (inB y2 p_o_items.length) (
  Chk (inB y2 x9.length) (
  La p_o_items j3 ys2 (i2 + 1) (x9.set y2.toNat x10) (W ((W ((W (x10 + (Hy (nth p_o_items y2) ((nth p_o_items y2).Heats)))) + ((nth p_o_items y2).Long))) + ((nth p_o_items y2).Break))) (W ((W (x10 + (Hy (nth p_o_items y2) ((nth p_o_items y2).Heats)))) + ((nth p_o_items y2).Long)))))
def Lb (y3 : (List Ei)) (x9 : List Int) (p_o_items : List Ed) (p_o_need : Int) (j5 : Int → Option ((List Int) × Int × Int × Bool)) : List Int → Nat → Int → Int → Option ((List Int) × Int × Int × Bool)
  | [],_,x13,_=>j5 x13
  | y4 :: ys4,i4,x13,x14=>Ha (fun (x15 : Int) (x16 : Int) =>
  Lb y3 x9 p_o_items p_o_need j5 ys4 (i4 + 1) x15 x16) (fun j6 =>
  Chk (inB y4 y3.length) (
  if decide (((nth y3 y4).last_) = 0) then
  j6 x13 x14
  else
  Chk (inB y4 x9.length) (
  Chk (inB y4 p_o_items.length) (
  Chk (inB y4 y3.length) (
  Ha (fun (x17 : Int) =>
  Chk (inB y4 x9.length) (
  Chk (inB y4 p_o_items.length) (
  Chk (inB y4 y3.length) (
  Chk (inB y4 p_o_items.length) (
  j6 x17 (W ((W ((nth x9 y4) + (Hy (nth p_o_items y4) ((nth y3 y4).last_)))) + ((nth p_o_items y4).Long)))))))) (fun j7 =>
  if ((decide (0 ≤ x14)) && (decide ((W ((W ((nth x9 y4) + (Hy (nth p_o_items y4) ((nth y3 y4).first_)))) - x14)) < p_o_need))) then
  j7 (W (x13 + 1))
  else
  j7 x13))))))
def Lc (x9 : List Int) (p_o_items : List Ed) (p_o_need : Int) (p_now : List Int) (j4 : Int → Option ((List Int) × Int × Int × Bool)) : List (List Ei) → Nat → Int → Option ((List Int) × Int × Int × Bool)
  | [],_,x12=>j4 x12
  | y3 :: ys3,i3,x12=>Ha (fun (x13 : Int) =>
  Lc x9 p_o_items p_o_need p_now j4 ys3 (i3 + 1) x13) (fun j5 =>
  Lb y3 x9 p_o_items p_o_need j5 p_now 0 x12 (-1))
def Sc (self : (List Ed) → Int → (List (List Ei)) → Int → (List Int) → Int → Int → Bool → (List Int) → (List Int) → Option ((List Int) × Int × Int × Bool)) (p_o_items : List Ed) (p_o_within : Int) (p_o_spans : List (List Ei)) (p_o_need : Int) (p_o_best : List Int) (p_o_short : Int) (p_o_ends : Int) (p_o_found : Bool) (p_now : List Int) (p_rest : List Int) : Option ((List Int) × Int × Int × Bool) :=
  if decide (0 < (p_rest.length : Int)) then
  Ha (fun (x1 : Int) (x2 : Int) (x3 : Bool) (x4 : List Int) =>
  some (x4,x1,x2,x3)) (fun j1 =>
  Kz p_now p_rest self p_o_items p_o_within p_o_spans p_o_need j1 p_rest 0 p_o_short p_o_ends p_o_found p_o_best)
  else
  Chk (decide (0 ≤ (p_o_items.length : Int)) && decide ((p_o_items.length : Int) < 1073741824)) (
  Ha (fun (x9 : List Int) (x11 : Int) =>
  Ha (fun (x12 : Int) =>
  Ha (fun (x18 : Bool) =>
  Ha (fun (x19 : Int) (x20 : Int) (x21 : Bool) (x22 : List Int) =>
  some (x22,x19,x20,x21)) (fun j9 =>
  if x18 then
  j9 x12 x11 true p_now
  else
  j9 p_o_short p_o_ends p_o_found p_o_best)) (fun j8 =>
  if !p_o_found then
  j8 true
  else
  j8 (decide ((Nm [(Gg x12 p_o_short),(Gg x11 p_o_ends)]) < 0)))) (fun j4 =>
  Lc x9 p_o_items p_o_need p_now j4 p_o_spans 0 p_o_within)) (fun j3 =>
  La p_o_items j3 p_now 0 (List.replicate ((p_o_items.length : Int).toNat) 0 : List Int) 0 0))
def Mv : Nat → (List Ed) → Int → (List (List Ei)) → Int → (List Int) → Int → Int → Bool → (List Int) → (List Int) → Option ((List Int) × Int × Int × Bool)
  | 0,_,_,_,_,_,_,_,_,_,_=>none
  | m + 1,p_o_items,p_o_within,p_o_spans,p_o_need,p_o_best,p_o_short,p_o_ends,p_o_found,p_now,p_rest=>Sc (Mv m) p_o_items p_o_within p_o_spans p_o_need p_o_best p_o_short p_o_ends p_o_found p_now p_rest
def Jh (j2 : (List Int) → Option ((List ByteArray) × Int × Int)) : List Ed → Nat → (List Int) → Option ((List ByteArray) × Int × Int)
  | [],_,x2=>j2 x2
  | _ :: ys1,i1,x2=>Chk (Qa x2.length) (
  Jh j2 ys1 (i1 + 1) (x2 ++ [(i1 : Int)]))
def Ip (r5 : (List Ed)) (j3 : (List ByteArray) → Option ((List ByteArray) × Int × Int)) : List Int → Nat → (List ByteArray) → Option ((List ByteArray) × Int × Int)
  | [],_,x3=>j3 x3
  | y2 :: ys2,i2,x3=>Chk (inB y2 r5.length) (
  Chk (Qa x3.length) (
  Ip r5 j3 ys2 (i2 + 1) (x3 ++ [(nth r5 y2).Key])))
def Qg (p_items : List Ed) (p_l : List Es) (p_need : Int) : Option ((List ByteArray) × Int × Int) :=
  Option.bind (Ko p_items p_l) (fun r1 =>
  if !decide (r1 = 0) then
  some (([] : List ByteArray),0,r1)
  else
  if decide (8 < (p_items.length : Int)) then
  some (([] : List ByteArray),0,2)
  else
  Ha (fun (x1 : Bool) =>
  if x1 then
  some (([] : List ByteArray),0,1)
  else
  Option.bind (Lz p_items) (fun r4 =>
  Option.bind (Hq r4) (fun r5 =>
  Option.bind (Ng r5 p_l p_need) (fun r6 =>
  Ha (fun (x2 : List Int) =>
  Option.bind (Mv 16 r5 r6.1 r6.2 p_need ([] : List Int) 0 0 false ([] : List Int) x2) (fun r7 =>
  Ha (fun (x3 : List ByteArray) =>
  some (x3,r7.2.1,0)) (fun j3 =>
  Ip r5 j3 r7.1 0 ([] : List ByteArray)))) (fun j2 =>
  Jh j2 r5 0 ([] : List Int)))))) (fun j1 =>
  if (!(Ev p_need 0 3600000)) then
  j1 true
  else
  Option.bind (Lf p_items 0) (fun r2 =>
  Option.bind (Oc r2 0) (fun r3 =>
  j1 (decide (345686400000 < r3))))))
def Iu (p_v : ByteArray) (j1 : Int) : List ByteArray → Nat → Int
  | [],_=>j1
  | y1 :: ys1,i1=>if decide (p_v = y1) then
  (i1 : Int)
  else
  Iu p_v j1 ys1 (i1 + 1)
def Pw (p_s : List ByteArray) (p_v : ByteArray) : Int :=
  Ha ((-1)) (fun j1 =>
  Iu p_v j1 p_s 0)
def Gy (p_s : List ByteArray) (p_v : ByteArray) : Bool :=
  decide (0 ≤ (Pw p_s p_v))
def Ji (p_items : List Ed) (p_order : List ByteArray) (j1 : (List Ed) → Option ((List Ed) × Int)) : List ByteArray → Nat → (List Ed) → Option ((List Ed) × Int)
  | [],_,x1=>j1 x1
  | y1 :: ys1,i1,x1=>if decide ((Ef p_items y1) < 0) then
  some (([] : List Ed),8)
  else
  Chk (CX 0 (i1 : Int) p_order.length) (
  if (Gy (cut p_order 0 (i1 : Int)) y1) then
  some (([] : List Ed),6)
  else
  Chk (inB (Ef p_items y1) p_items.length) (
  Chk (Qa x1.length) (
  Ji p_items p_order j1 ys1 (i1 + 1) (x1 ++ [(nth p_items (Ef p_items y1))]))))
def Qh (p_items : List Ed) (p_order : List ByteArray) : Option ((List Ed) × Int) :=
  Option.bind (Ik p_items) (fun r1 =>
  if !decide (r1 = 0) then
  some (([] : List Ed),r1)
  else
  if !decide ((p_order.length : Int) = (p_items.length : Int)) then
  some (([] : List Ed),3)
  else
  Ha (fun (x1 : List Ed) =>
  some (x1,0)) (fun j1 =>
  Ji p_items p_order j1 p_order 0 ([] : List Ed)))
def Hr (j1 : (List Ed) → Option (List Ed)) : List Ed → Nat → (List Ed) → Option (List Ed)
  | [],_,x1=>j1 x1
  | _ :: ys1,i1,x1=>Chk (inB (i1 : Int) x1.length) (
  Hr j1 ys1 (i1 + 1) (x1.set ((i1 : Int).toNat) (Ed.mk En 0 0 0 0)))
def Lt (p_l : List Ed) : Option (List Ed) :=
  Ha (fun (x1 : List Ed) =>
  some x1) (fun j1 =>
  Hr j1 p_l 0 p_l)
def Ic (p_items : List Ed) (p_l : List Ey) (j1 : Option Int) : List Ey → Nat → Int → Option Int
  | [],_,_=>j1
  | y1 :: ys1,i1,x1=>if decide ((Ef p_items y1.Item) < 0) then
  some 8
  else
  Ha (fun (x2 : Bool) =>
  if x2 then
  some 1
  else
  Ha (fun (c1 : Bool) =>
  if c1 then
  some 7
  else
  Ic p_items p_l j1 ys1 (i1 + 1) (W ((W ((Ef p_items y1.Item) * 61)) + y1.Heat))) (fun j3 =>
  if (decide ((W ((W ((Ef p_items y1.Item) * 61)) + y1.Heat)) ≤ x1)) then j3 ((decide ((W ((W ((Ef p_items y1.Item) * 61)) + y1.Heat)) ≤ x1)) || true) else Ha (fun (c2 : Bool) =>
  j3 ((decide ((W ((W ((Ef p_items y1.Item) * 61)) + y1.Heat)) ≤ x1)) || c2)) (fun j4 =>
  if (decide (0 < (i1 : Int))) then Chk (inB (W ((i1 : Int) - 1)) p_l.length) (
  j4 ((decide (0 < (i1 : Int))) && (decide (y1.At < ((nth p_l (W ((i1 : Int) - 1))).At))))) else j4 ((decide (0 < (i1 : Int))) && true)))) (fun j2 =>
  Chk (inB (Ef p_items y1.Item) p_items.length) (
  if !(Ev y1.Heat 1 ((nth p_items (Ef p_items y1.Item)).Heats)) then
  j2 true
  else
  j2 (!(It y1.At))))
def Pd (p_items : List Ed) (p_l : List Ey) : Option Int :=
  Option.bind (Ik p_items) (fun r1 =>
  if !decide (r1 = 0) then
  some r1
  else
  if decide (100 < (p_l.length : Int)) then
  some 2
  else
  Ha (some 0) (fun j1 =>
  Ic p_items p_l j1 p_l 0 (-1)))
def Kd (j1 : (List (An × Bool)) → (List (An × Int)) → Option ((List Ee) × (List Ee))) : List Ey → Nat → (List (An × Bool)) → (List (An × Int)) → Option ((List Ee) × (List Ee))
  | [],_,x1,x2=>j1 x1 x2
  | y1 :: ys1,i1,x1,x2=>Kd j1 ys1 (i1 + 1) (Nz x1 (An.mk y1.Item y1.Heat) true) (Nz x2 (An.mk y1.Item y1.Heat) y1.At)
def Je (x1 : List (An × Bool)) (x2 : List (An × Int)) (r1 : (List Ee)) (j2 : (List Ee) → Option ((List Ee) × (List Ee))) : List Ee → Nat → (List Ee) → Option ((List Ee) × (List Ee))
  | [],_,x3=>j2 x3
  | y2 :: ys2,i2,x3=>Ha (fun (x4 : Int) =>
  Ha (fun (x5 : Int) =>
  Chk (Qa x3.length) (
  Je x1 x2 r1 j2 ys2 (i2 + 1) (x3 ++ [(Ee.mk y2.Item y2.Heat (Gs.mk x5 (W (x5 + (W (y2.Time.To - y2.Time.From))))))]))) (fun j4 =>
  if Jj x1 (An.mk y2.Item y2.Heat) false then
  Ha (fun (x6 : Int) =>
  j4 x6) (fun j5 =>
  if decide (0 < (i2 : Int)) then
  Chk (inB (W ((i2 : Int) - 1)) x3.length) (
  j5 (Xt (Jj x2 (An.mk y2.Item y2.Heat) 0) (((nth x3 (W ((i2 : Int) - 1))).Time).To)))
  else
  j5 (Jj x2 (An.mk y2.Item y2.Heat) 0))
  else
  j4 x4)) (fun j3 =>
  if decide (0 < (i2 : Int)) then
  Chk (inB (W ((i2 : Int) - 1)) x3.length) (
  Chk (inB (W ((i2 : Int) - 1)) r1.length) (
  j3 (Xt y2.Time.From (W ((W ((((nth x3 (W ((i2 : Int) - 1))).Time).To) + y2.Time.From)) - (((nth r1 (W ((i2 : Int) - 1))).Time).To))))))
  else
  j3 y2.Time.From)
def Qx (p_items : List Ed) (p_from : Int) (p_l : List Ey) : Option ((List Ee) × (List Ee)) :=
  Option.bind (Lf p_items p_from) (fun r1 =>
  Ha (fun (x1 : List (An × Bool)) (x2 : List (An × Int)) =>
  Ha (fun (x3 : List Ee) =>
  some (x3,r1)) (fun j2 =>
  Je x1 x2 r1 j2 r1 0 ([] : List Ee))) (fun j1 =>
  Kd j1 p_l 0 ([] : List (An × Bool)) ([] : List (An × Int))))
def Pe (p_items : List Ed) (p_from : Int) (p_l : List Ey) : Option ((List Ee) × (List Ee) × Int) :=
  Option.bind (Pd p_items p_l) (fun r1 =>
  if !decide (r1 = 0) then
  some (([] : List Ee),([] : List Ee),r1)
  else
  if !(It p_from) then
  some (([] : List Ee),([] : List Ee),1)
  else
  Option.bind (Qx p_items p_from p_l) (fun r2 =>
  Option.bind (Oc r2.1 p_from) (fun r3 =>
  if decide (345686400000 < r3) then
  some (([] : List Ee),([] : List Ee),1)
  else
  some (r2.1,r2.2,0))))
def Qy (p_items : List Ed) (p_from : Int) (p_l : List Ey) : Option ((List Ee) × Int) :=
  Option.bind (Pe p_items p_from p_l) (fun r1 =>
  some (r1.1,r1.2.2))
def Iv (p_s2 : List Ed) (j1 : Option Bool) : List Ed → Nat → Option Bool
  | [],_=>j1
  | y1 :: ys1,i1=>Chk (inB (i1 : Int) p_s2.length) (
  if !decide (y1 = (nth p_s2 (i1 : Int))) then
  some false
  else
  Iv p_s2 j1 ys1 (i1 + 1))
def Ni (p_s1 : List Ed) (p_s2 : List Ed) : Option Bool :=
  if !decide ((p_s1.length : Int) = (p_s2.length : Int)) then
  some false
  else
  Ha (some true) (fun j1 =>
  Iv p_s2 j1 p_s1 0)
def Iw (p_s2 : List Es) (j1 : Option Bool) : List Es → Nat → Option Bool
  | [],_=>j1
  | y1 :: ys1,i1=>Chk (inB (i1 : Int) p_s2.length) (
  if !decide (y1 = (nth p_s2 (i1 : Int))) then
  some false
  else
  Iw p_s2 j1 ys1 (i1 + 1))
def Nj (p_s1 : List Es) (p_s2 : List Es) : Option Bool :=
  if !decide ((p_s1.length : Int) = (p_s2.length : Int)) then
  some false
  else
  Ha (some true) (fun j1 =>
  Iw p_s2 j1 p_s1 0)
def Ix (p_s2 : List Ey) (j1 : Option Bool) : List Ey → Nat → Option Bool
  | [],_=>j1
  | y1 :: ys1,i1=>Chk (inB (i1 : Int) p_s2.length) (
  if !decide (y1 = (nth p_s2 (i1 : Int))) then
  some false
  else
  Ix p_s2 j1 ys1 (i1 + 1))
def Nk (p_s1 : List Ey) (p_s2 : List Ey) : Option Bool :=
  if !decide ((p_s1.length : Int) = (p_s2.length : Int)) then
  some false
  else
  Ha (some true) (fun j1 =>
  Ix p_s2 j1 p_s1 0)
def Sd (p_year : Int) : Bool :=
  ((decide ((Int.tmod p_year 4) = 0)) && ((!decide ((Int.tmod p_year 100) = 0)) || (decide ((Int.tmod p_year 400) = 0))))
def Km (p_year : Int) (p_month : Int) : Int :=
  if decide (p_month = 2) then
  if (Sd p_year) then
  29
  else
  28
  else
  Ha (fun (x1 : Bool) =>
  if x1 then
  30
  else
  31) (fun j1 =>
  if decide (p_month = 4) then
  j1 (decide (p_month = 4))
  else
  Ha (fun (x2 : Bool) =>
  j1 x2) (fun j2 =>
  if decide (p_month = 6) then
  j2 (decide (p_month = 6))
  else
  Ha (fun (x3 : Bool) =>
  j2 x3) (fun j3 =>
  if decide (p_month = 9) then
  j3 (decide (p_month = 9))
  else
  j3 (decide (p_month = 11)))))
def Mp (p_year : Int) : Int :=
  if (Sd p_year) then
  366
  else
  365
def St (p_n : Int) : Bool :=
  (Ev p_n (-40000) 4000)
def Ks (p_d : Jw) (j2 : Int → Option (Int × Int)) : Nat → Int → Int → Option (Int × Int)
  | 0,_,_=>none
  | m1 + 1,x2,x3=>if decide (x3 < p_d.Month) then
  Ks p_d j2 m1 (W (x2 + (Km p_d.Year x3))) (W (x3 + 1))
  else
  j2 x2
def Kt (p_d : Jw) (j3 : Int → Option (Int × Int)) : Nat → Int → Int → Option (Int × Int)
  | 0,_,_=>none
  | m2 + 1,x4,x5=>if decide (x5 < p_d.Year) then
  Kt p_d j3 m2 (W (x4 + (Mp x5))) (W (x5 + 1))
  else
  j3 x4
def Ku (j4 : Int → Option (Int × Int)) : Nat → Int → Int → Option (Int × Int)
  | 0,_,_=>none
  | m3 + 1,x6,x7=>if decide (x7 < 2024) then
  Ku j4 m3 (W (x6 - (Mp x7))) (W (x7 + 1))
  else
  j4 x6
def Su (p_d : Jw) : Option (Int × Int) :=
  Ha (fun (x1 : Bool) =>
  if x1 then
  some (0,1)
  else
  Ha (fun (x2 : Int) =>
  Ha (fun (x4 : Int) =>
  Ha (fun (x6 : Int) =>
  if !(St x6) then
  some (0,1)
  else
  some (x6,0)) (fun j4 =>
  Ku j4 ((2024 - p_d.Year).toNat + 2) x4 p_d.Year)) (fun j3 =>
  Kt p_d j3 ((p_d.Year - 2024).toNat + 2) x2 2024)) (fun j2 =>
  Ks p_d j2 ((p_d.Month - 1).toNat + 2) (W (p_d.Day - 1)) 1)) (fun j1 =>
  if !(Ev p_d.Year 1900 2100) then
  if true then
  j1 true
  else
  j1 (!(Ev p_d.Day 1 (Km p_d.Year p_d.Month)))
  else
  if !(Ev p_d.Month 1 12) then
  j1 true
  else
  j1 (!(Ev p_d.Day 1 (Km p_d.Year p_d.Month))))
def Ty (p_l : List Ed) (p_from : Int) : Option (Int × Int) :=
  Option.bind (Mb p_l p_from) (fun r1 =>
  if !decide (r1.2 = 0) then
  some (0,r1.2)
  else
  Option.bind (Oc r1.1 p_from) (fun r2 =>
  some (r2,0)))
def Nn (p_n : Int) : Bool :=
  (Ev p_n 1 360000)
def Jt (p_l : List Ns) (j1 : Option Int) : List Ns → Nat → Option Int
  | [],_=>j1
  | y1 :: ys1,i1=>Option.bind (Js y1.Race) (fun r1 =>
  if !r1 then
  some 5
  else
  Ha (fun (c1 : Bool) =>
  if c1 then
  some 7
  else
  if !(Nn y1.Time) then
  some 1
  else
  Jt p_l j1 ys1 (i1 + 1)) (fun j2 =>
  if (decide (0 < (i1 : Int))) then Chk (inB (W ((i1 : Int) - 1)) p_l.length) (
  j2 ((decide (0 < (i1 : Int))) && (Wf y1.Race ((nth p_l (W ((i1 : Int) - 1))).Race) || decide (y1.Race = ((nth p_l (W ((i1 : Int) - 1))).Race))))) else j2 ((decide (0 < (i1 : Int))) && true)))
def Rk (p_l : List Ns) : Option Int :=
  if decide (500 < (p_l.length : Int)) then
  some 2
  else
  Ha (some 0) (fun j1 =>
  Jt p_l j1 p_l 0)
def Kv (p_race : ByteArray) (j1 : Int) : List Ns → Nat → Int
  | [],_=>j1
  | y1 :: ys1,i1=>if decide (y1.Race = p_race) then
  y1.Time
  else
  Kv p_race j1 ys1 (i1 + 1)
def Oy (p_l : List Ns) (p_race : ByteArray) : Int :=
  Ha (0) (fun j1 =>
  Kv p_race j1 p_l 0)
def Oj (p_x : Int) (p_y : Int) : (Int × Int) :=
  (IntKind.wrap .u64 ((IntKind.wrap .u64 ((IntKind.wrap .u64 ((Fx .u64 p_x 32) * (Fx .u64 p_y 32))) + (Fx .u64 (IntKind.wrap .u64 ((IntKind.wrap .u64 ((Fx .u64 p_x 32) * (Kn .u64 p_y 4294967295))) + (Fx .u64 (IntKind.wrap .u64 ((Kn .u64 p_x 4294967295) * (Kn .u64 p_y 4294967295))) 32))) 32))) + (Fx .u64 (IntKind.wrap .u64 ((Kn .u64 (IntKind.wrap .u64 ((IntKind.wrap .u64 ((Fx .u64 p_x 32) * (Kn .u64 p_y 4294967295))) + (Fx .u64 (IntKind.wrap .u64 ((Kn .u64 p_x 4294967295) * (Kn .u64 p_y 4294967295))) 32))) 4294967295) + (IntKind.wrap .u64 ((Kn .u64 p_x 4294967295) * (Fx .u64 p_y 32))))) 32)),IntKind.wrap .u64 (p_x * p_y))
def Px (p_x : Int) : Option Int :=
  Option.bind (Tw p_x) (fun r1 =>
  some (W (64 - r1)))
def Ml (p_lo : Int) (r1 : Int) (p_y : Int) (j1 : Int → Option (Int × Int)) : Nat → Int → Int → Option (Int × Int)
  | 0,_,_=>none
  | m1 + 1,x1,x2=>if ((decide (4294967296 ≤ x1)) || (decide ((IntKind.wrap .u64 ((IntKind.wrap .u64 (4294967296 * x2)) + (Fx .u64 (Fd .u64 p_lo (IntKind.wrap .u64 r1)) 32))) < (IntKind.wrap .u64 (x1 * (Kn .u64 (Fd .u64 p_y (IntKind.wrap .u64 r1)) 4294967295)))))) then
  if decide (4294967296 ≤ (IntKind.wrap .u64 (x2 + (Fx .u64 (Fd .u64 p_y (IntKind.wrap .u64 r1)) 32)))) then
  j1 (IntKind.wrap .u64 (x1 - 1))
  else
  Ml p_lo r1 p_y j1 m1 (IntKind.wrap .u64 (x1 - 1)) (IntKind.wrap .u64 (x2 + (Fx .u64 (Fd .u64 p_y (IntKind.wrap .u64 r1)) 32)))
  else
  j1 x1
def Mm (p_lo : Int) (r1 : Int) (p_y : Int) (j2 : Int → Option (Int × Int)) : Nat → Int → Int → Option (Int × Int)
  | 0,_,_=>none
  | m2 + 1,x3,x4=>if ((decide (4294967296 ≤ x4)) || (decide ((IntKind.wrap .u64 ((IntKind.wrap .u64 (4294967296 * x3)) + (Kn .u64 (Fd .u64 p_lo (IntKind.wrap .u64 r1)) 4294967295))) < (IntKind.wrap .u64 (x4 * (Kn .u64 (Fd .u64 p_y (IntKind.wrap .u64 r1)) 4294967295)))))) then
  if decide (4294967296 ≤ (IntKind.wrap .u64 (x3 + (Fx .u64 (Fd .u64 p_y (IntKind.wrap .u64 r1)) 32)))) then
  j2 (IntKind.wrap .u64 (x4 - 1))
  else
  Mm p_lo r1 p_y j2 m2 (IntKind.wrap .u64 (x3 + (Fx .u64 (Fd .u64 p_y (IntKind.wrap .u64 r1)) 32))) (IntKind.wrap .u64 (x4 - 1))
  else
  j2 x4
def Wn (p_hi : Int) (p_lo : Int) (p_y : Int) : Option (Int × Int) :=
  if decide (p_y = 0) then
  none
  else
  if decide (p_y ≤ p_hi) then
  none
  else
  if decide (p_hi = 0) then
  Chk (!decide (p_y = 0)) (
  Chk (!decide (p_y = 0)) (
  some (IntKind.wrap .u64 (Int.tdiv p_lo p_y),Int.tmod p_lo p_y)))
  else
  Option.bind (Px p_y) (fun r1 =>
  Chk (decide (0 ≤ (IntKind.wrap .u64 r1))) (
  Chk (decide (0 ≤ (IntKind.wrap .u64 r1))) (
  Chk (decide (0 ≤ (IntKind.wrap .u64 (64 - (IntKind.wrap .u64 r1))))) (
  Chk (decide (0 ≤ (IntKind.wrap .u64 r1))) (
  Chk (!decide ((Fx .u64 (Fd .u64 p_y (IntKind.wrap .u64 r1)) 32) = 0)) (
  Ha (fun (x1 : Int) =>
  Chk (!decide ((Fx .u64 (Fd .u64 p_y (IntKind.wrap .u64 r1)) 32) = 0)) (
  Ha (fun (x4 : Int) =>
  Chk (decide (0 ≤ (IntKind.wrap .u64 r1))) (
  some (IntKind.wrap .u64 ((IntKind.wrap .u64 (x1 * 4294967296)) + x4),Fx .u64 (IntKind.wrap .u64 ((IntKind.wrap .u64 ((IntKind.wrap .u64 ((IntKind.wrap .u64 ((IntKind.wrap .u64 ((IntKind.wrap .u64 ((Oo .u64 (Fd .u64 p_hi (IntKind.wrap .u64 r1)) (Fx .u64 p_lo (IntKind.wrap .u64 (64 - (IntKind.wrap .u64 r1))))) * 4294967296)) + (Fx .u64 (Fd .u64 p_lo (IntKind.wrap .u64 r1)) 32))) - (IntKind.wrap .u64 (x1 * (Fd .u64 p_y (IntKind.wrap .u64 r1)))))) * 4294967296)) + (Kn .u64 (Fd .u64 p_lo (IntKind.wrap .u64 r1)) 4294967295))) - (IntKind.wrap .u64 (x4 * (Fd .u64 p_y (IntKind.wrap .u64 r1)))))) (IntKind.wrap .u64 r1)))) (fun j2 =>
  Mm p_lo r1 p_y j2 (((IntKind.wrap .u64 (Int.tdiv (IntKind.wrap .u64 ((IntKind.wrap .u64 ((IntKind.wrap .u64 ((Oo .u64 (Fd .u64 p_hi (IntKind.wrap .u64 r1)) (Fx .u64 p_lo (IntKind.wrap .u64 (64 - (IntKind.wrap .u64 r1))))) * 4294967296)) + (Fx .u64 (Fd .u64 p_lo (IntKind.wrap .u64 r1)) 32))) - (IntKind.wrap .u64 (x1 * (Fd .u64 p_y (IntKind.wrap .u64 r1)))))) (Fx .u64 (Fd .u64 p_y (IntKind.wrap .u64 r1)) 32))) - 4294967296).toNat + 2) (IntKind.wrap .u64 ((IntKind.wrap .u64 ((IntKind.wrap .u64 ((IntKind.wrap .u64 ((Oo .u64 (Fd .u64 p_hi (IntKind.wrap .u64 r1)) (Fx .u64 p_lo (IntKind.wrap .u64 (64 - (IntKind.wrap .u64 r1))))) * 4294967296)) + (Fx .u64 (Fd .u64 p_lo (IntKind.wrap .u64 r1)) 32))) - (IntKind.wrap .u64 (x1 * (Fd .u64 p_y (IntKind.wrap .u64 r1)))))) - (IntKind.wrap .u64 ((IntKind.wrap .u64 (Int.tdiv (IntKind.wrap .u64 ((IntKind.wrap .u64 ((IntKind.wrap .u64 ((Oo .u64 (Fd .u64 p_hi (IntKind.wrap .u64 r1)) (Fx .u64 p_lo (IntKind.wrap .u64 (64 - (IntKind.wrap .u64 r1))))) * 4294967296)) + (Fx .u64 (Fd .u64 p_lo (IntKind.wrap .u64 r1)) 32))) - (IntKind.wrap .u64 (x1 * (Fd .u64 p_y (IntKind.wrap .u64 r1)))))) (Fx .u64 (Fd .u64 p_y (IntKind.wrap .u64 r1)) 32))) * (Fx .u64 (Fd .u64 p_y (IntKind.wrap .u64 r1)) 32))))) (IntKind.wrap .u64 (Int.tdiv (IntKind.wrap .u64 ((IntKind.wrap .u64 ((IntKind.wrap .u64 ((Oo .u64 (Fd .u64 p_hi (IntKind.wrap .u64 r1)) (Fx .u64 p_lo (IntKind.wrap .u64 (64 - (IntKind.wrap .u64 r1))))) * 4294967296)) + (Fx .u64 (Fd .u64 p_lo (IntKind.wrap .u64 r1)) 32))) - (IntKind.wrap .u64 (x1 * (Fd .u64 p_y (IntKind.wrap .u64 r1)))))) (Fx .u64 (Fd .u64 p_y (IntKind.wrap .u64 r1)) 32)))))) (fun j1 =>
  Ml p_lo r1 p_y j1 (((IntKind.wrap .u64 (Int.tdiv (Oo .u64 (Fd .u64 p_hi (IntKind.wrap .u64 r1)) (Fx .u64 p_lo (IntKind.wrap .u64 (64 - (IntKind.wrap .u64 r1))))) (Fx .u64 (Fd .u64 p_y (IntKind.wrap .u64 r1)) 32))) - 4294967296).toNat + 2) (IntKind.wrap .u64 (Int.tdiv (Oo .u64 (Fd .u64 p_hi (IntKind.wrap .u64 r1)) (Fx .u64 p_lo (IntKind.wrap .u64 (64 - (IntKind.wrap .u64 r1))))) (Fx .u64 (Fd .u64 p_y (IntKind.wrap .u64 r1)) 32))) (IntKind.wrap .u64 ((Oo .u64 (Fd .u64 p_hi (IntKind.wrap .u64 r1)) (Fx .u64 p_lo (IntKind.wrap .u64 (64 - (IntKind.wrap .u64 r1))))) - (IntKind.wrap .u64 ((IntKind.wrap .u64 (Int.tdiv (Oo .u64 (Fd .u64 p_hi (IntKind.wrap .u64 r1)) (Fx .u64 p_lo (IntKind.wrap .u64 (64 - (IntKind.wrap .u64 r1))))) (Fx .u64 (Fd .u64 p_y (IntKind.wrap .u64 r1)) 32))) * (Fx .u64 (Fd .u64 p_y (IntKind.wrap .u64 r1)) 32))))))))))))
def Sv (p_base : Int) (p_time : Int) : Option Int :=
  if decide ((IntKind.wrap .u64 ((IntKind.wrap .u64 ((IntKind.wrap .u64 p_time) * (IntKind.wrap .u64 p_time))) * (IntKind.wrap .u64 p_time))) ≤ ((Oj (IntKind.wrap .u64 ((IntKind.wrap .u64 ((IntKind.wrap .u64 p_base) * (IntKind.wrap .u64 p_base))) * (IntKind.wrap .u64 p_base))) 1000).1)) then
  some 1000000000
  else
  Option.bind (Wn ((Oj (IntKind.wrap .u64 ((IntKind.wrap .u64 ((IntKind.wrap .u64 p_base) * (IntKind.wrap .u64 p_base))) * (IntKind.wrap .u64 p_base))) 1000).1) ((Oj (IntKind.wrap .u64 ((IntKind.wrap .u64 ((IntKind.wrap .u64 p_base) * (IntKind.wrap .u64 p_base))) * (IntKind.wrap .u64 p_base))) 1000).2) (IntKind.wrap .u64 ((IntKind.wrap .u64 ((IntKind.wrap .u64 p_time) * (IntKind.wrap .u64 p_time))) * (IntKind.wrap .u64 p_time)))) (fun r1 =>
  some (W (Tl r1.1 1000000000)))
def Sw (p_l : List Ns) (p_race : ByteArray) (p_time : Int) : Option (Int × Int) :=
  Option.bind (Rk p_l) (fun r1 =>
  if !decide (r1 = 0) then
  some (0,r1)
  else
  if decide ((Oy p_l p_race) = 0) then
  some (0,8)
  else
  if !(Nn p_time) then
  some (0,1)
  else
  Option.bind (Sv (Oy p_l p_race) p_time) (fun r2 =>
  some (r2,0)))
def Jk (y1 : Qd) (j4 : Option Int) : List ByteArray → Nat → Option Int
  | [],_=>j4
  | y2 :: ys2,i2=>Option.bind (Js y2) (fun r5 =>
  if !r5 then
  some 5
  else
  Ha (fun (c3 : Bool) =>
  if c3 then
  some 7
  else
  Jk y1 j4 ys2 (i2 + 1)) (fun j5 =>
  if (decide (0 < (i2 : Int))) then Chk (inB (W ((i2 : Int) - 1)) y1.Clubs.length) (
  j5 ((decide (0 < (i2 : Int))) && (Wf y2 (nth y1.Clubs (W ((i2 : Int) - 1))) || decide (y2 = (nth y1.Clubs (W ((i2 : Int) - 1))))))) else j5 ((decide (0 < (i2 : Int))) && true)))
def Jl (p_l : List Qd) (j1 : Option Int) : List Qd → Nat → Option Int
  | [],_=>j1
  | y1 :: ys1,i1=>Option.bind (Js y1.Key) (fun r2 =>
  Ha (fun (c1 : Bool) =>
  if c1 then
  some 5
  else
  Ha (fun (c2 : Bool) =>
  if c2 then
  some 7
  else
  if decide (100 < (y1.Clubs.length : Int)) then
  some 2
  else
  Ha (if (((decide (y1.Young < 0)) || (decide (y1.Old < y1.Young))) || (decide (150 < y1.Old))) then
  some 1
  else
  Jl p_l j1 ys1 (i1 + 1)) (fun j4 =>
  Jk y1 j4 y1.Clubs 0)) (fun j3 =>
  if (decide (0 < (i1 : Int))) then Chk (inB (W ((i1 : Int) - 1)) p_l.length) (
  j3 ((decide (0 < (i1 : Int))) && (Wf y1.Key ((nth p_l (W ((i1 : Int) - 1))).Key) || decide (y1.Key = ((nth p_l (W ((i1 : Int) - 1))).Key))))) else j3 ((decide (0 < (i1 : Int))) && true))) (fun j2 =>
  if (!r2) then j2 ((!r2) || true) else Option.bind (Js y1.Race) (fun r3 =>
  j2 ((!r2) || (!r3)))))
def Qz (p_l : List Qd) : Option Int :=
  if decide (50 < (p_l.length : Int)) then
  some 2
  else
  Ha (some 0) (fun j1 =>
  Jl p_l j1 p_l 0)
def Rl (p_x : Il) : Option Int :=
  Ha (some 0) (fun j1 =>
  if !(It p_x.At) then
  some 1
  else
  if !(Ev p_x.Kind 1 3) then
  some 4
  else
  Option.bind (Js p_x.Id) (fun r1 =>
  if !r1 then
  some 5
  else
  Ha (j1) (fun j2 =>
  if !decide (p_x.Kind = 1) then
  if !decide (p_x = (Il.mk p_x.At p_x.Kind p_x.Id En En En 0 0)) then
  some 3
  else
  j2
  else
  Option.bind (Js p_x.Who) (fun r2 =>
  Ha (fun (c1 : Bool) =>
  Ha (fun (c2 : Bool) =>
  if c2 then
  some 5
  else
  if ((!(Ev p_x.Age 0 150)) || (!(Nn p_x.Time))) then
  some 1
  else
  j2) (fun j4 =>
  if c1 then j4 (c1 || true) else Ha (fun (c3 : Bool) =>
  j4 (c1 || c3)) (fun j5 =>
  if (!decide (p_x.Club = En)) then Option.bind (Js p_x.Club) (fun r4 =>
  j5 ((!decide (p_x.Club = En)) && (!r4))) else j5 ((!decide (p_x.Club = En)) && true)))) (fun j3 =>
  if (!r2) then j3 ((!r2) || true) else Option.bind (Js p_x.Race) (fun r3 =>
  j3 ((!r2) || (!r3))))))))
def Ro (p_s : Il) : Option Int :=
  Option.bind (Rl p_s) (fun r1 =>
  if !decide (r1 = 0) then
  some r1
  else
  if !decide (p_s.Kind = 1) then
  some 4
  else
  some 0)
def Tz (p_k : Qd) (p_s : Il) : Bool :=
  (((decide (p_s.Race = p_k.Race)) && ((decide ((p_k.Clubs.length : Int) = 0)) || (Gy p_k.Clubs p_s.Club))) && (Ev p_s.Age p_k.Young p_k.Old))
def Mn (p_s : Il) (j1 : (List ByteArray) → Option ((List ByteArray) × Int)) : List Qd → Nat → (List ByteArray) → Option ((List ByteArray) × Int)
  | [],_,x1=>j1 x1
  | y1 :: ys1,i1,x1=>Ha (fun (x2 : List ByteArray) =>
  Mn p_s j1 ys1 (i1 + 1) x2) (fun j2 =>
  Ha (fun (x3 : List ByteArray) =>
  j2 x3) (fun j3 =>
  if (Tz y1 p_s) then
  Chk (Qa x1.length) (
  j3 (x1 ++ [y1.Key]))
  else
  j3 x1))
def Wo (p_l : List Qd) (p_s : Il) : Option ((List ByteArray) × Int) :=
  Option.bind (Qz p_l) (fun r1 =>
  if !decide (r1 = 0) then
  some (([] : List ByteArray),r1)
  else
  Option.bind (Ro p_s) (fun r2 =>
  if !decide (r2 = 0) then
  some (([] : List ByteArray),r2)
  else
  Ha (fun (x1 : List ByteArray) =>
  some (x1,0)) (fun j1 =>
  Mn p_s j1 p_l 0 ([] : List ByteArray))))
def Kj (j1 : Int) : List Int → Nat → Int
  | [],_=>j1
  | y1 :: ys1,i1=>if !decide (y1 = 0) then
  y1
  else
  Kj j1 ys1 (i1 + 1)
def Ka (p_l : List Int) : Int :=
  Ha (0) (fun j1 =>
  Kj j1 p_l 0)
def Qm : Option Bool :=
  Option.bind (Su (Jw.mk 2024 3 1)) (fun r1 =>
  Option.bind (Ty [(Ed.mk k_a 2 10 5 0)] 0) (fun r2 =>
  Option.bind (Sw [(Ns.mk k_r 3000)] k_r 6000) (fun r3 =>
  Option.bind (Wo ([(Qd.mk k_k k_r ([] : List ByteArray) 0 9)] : List Qd) (Il.mk 0 1 k_i k_a En k_r 0 5)) (fun r4 =>
  some (((((decide ((Ka [r1.2,r2.2,r3.2,r4.2]) = 0)) && (decide (r1.1 = 60))) && (decide (r2.1 = 25))) && (decide (r3.1 = 125))) && (decide ((r4.1.length : Int) = 1)))))))
def Mh (p_l : List Int) : Option Bool :=
  Option.bind (Ly p_l 0 4) (fun r1 =>
  Option.bind (Ly p_l 0 4) (fun r2 =>
  Option.bind (Ma p_l r1.2 r1.1) (fun r3 =>
  Option.bind (Ma p_l r2.2 r2.1) (fun r4 =>
  Option.bind (Pr p_l r3.2 r1.1) (fun r5 =>
  Option.bind (Pr p_l r4.2 r2.1) (fun r6 =>
  Option.bind (Mb r1.1 0) (fun r7 =>
  Option.bind (Kp r7.1) (fun r8 =>
  Option.bind (Qf r1.1 r3.1 0) (fun r9 =>
  Option.bind (Lq r9.1) (fun r10 =>
  Option.bind (Qg r1.1 r3.1 100) (fun r11 =>
  Option.bind (Qh r1.1 r11.1) (fun r12 =>
  Option.bind (Lt r12.1) (fun r13 =>
  Option.bind (Qy r1.1 0 r5.1) (fun r14 =>
  Option.bind (Kp r14.1) (fun r15 =>
  Option.bind (Ni r1.1 r2.1) (fun r16 =>
  Ha (fun (c1 : Bool) =>
  Ha (fun (c2 : Bool) =>
  Ha (fun (c3 : Bool) =>
  some c3) (fun j3 =>
  if c2 then Option.bind (Qm) (fun r19 =>
  j3 (c2 && r19)) else j3 (c2 && true))) (fun j2 =>
  if c1 then Option.bind (Nk r5.1 r6.1) (fun r18 =>
  j2 (c1 && r18)) else j2 (c1 && true))) (fun j1 =>
  if r16 then Option.bind (Nj r3.1 r4.1) (fun r17 =>
  j1 (r16 && r17)) else j1 (r16 && true))))))))))))))))))
theorem twin_eqs : True:=by
  have h:=@Ia.eq_def; clear h; have h:=@Ia.eq_1; clear h; have h:=@Ia.eq_2; clear h
  have h:=@Ep.eq_def; clear h; have h:=@Ep.eq_1; clear h; have h:=@Ep.eq_2; clear h
  have h:=@Ex.eq_def; clear h; have h:=@Ex.eq_1; clear h; have h:=@Ex.eq_2; clear h
  have h:=@Fl.eq_def; clear h; have h:=@Fl.eq_1; clear h; have h:=@Fl.eq_2; clear h
  have h:=@Ib.eq_def; clear h; have h:=@Ib.eq_1; clear h; have h:=@Ib.eq_2; clear h
  have h:=@Hi.eq_def; clear h; have h:=@Hi.eq_1; clear h; have h:=@Hi.eq_2; clear h
  have h:=@Kc.eq_def; clear h; have h:=@Kc.eq_1; clear h; have h:=@Kc.eq_2; clear h
  have h:=@Jo.eq_def; clear h; have h:=@Jo.eq_1; clear h; have h:=@Jo.eq_2; clear h
  have h:=@Hs.eq_def; clear h; have h:=@Hs.eq_1; clear h; have h:=@Hs.eq_2; clear h
  have h:=@Hj.eq_def; clear h; have h:=@Hj.eq_1; clear h; have h:=@Hj.eq_2; clear h
  have h:=@Hk.eq_def; clear h; have h:=@Hk.eq_1; clear h; have h:=@Hk.eq_2; clear h
  have h:=@Hn.eq_def; clear h; have h:=@Hn.eq_1; clear h; have h:=@Hn.eq_2; clear h
  have h:=@Fi.eq_def; clear h; have h:=@Fi.eq_1; clear h; have h:=@Fi.eq_2; clear h
  have h:=@Ky.eq_def; clear h; have h:=@Ky.eq_1; clear h; have h:=@Ky.eq_2; clear h
  have h:=@Ht.eq_def; clear h; have h:=@Ht.eq_1; clear h; have h:=@Ht.eq_2; clear h
  have h:=@Ie.eq_def; clear h; have h:=@Ie.eq_1; clear h; have h:=@Ie.eq_2; clear h
  have h:=@Et.eq_def; clear h; have h:=@Et.eq_1; clear h; have h:=@Et.eq_2; clear h
  have h:=@Ez.eq_def; clear h; have h:=@Ez.eq_1; clear h; have h:=@Ez.eq_2; clear h
  have h:=@Fp.eq_def; clear h; have h:=@Fp.eq_1; clear h; have h:=@Fp.eq_2; clear h
  have h:=@Kg.eq_def; clear h; have h:=@Kg.eq_1; clear h; have h:=@Kg.eq_2; clear h
  have h:=@Jr.eq_def; clear h; have h:=@Jr.eq_1; clear h; have h:=@Jr.eq_2; clear h
  have h:=@Ho.eq_def; clear h; have h:=@Ho.eq_1; clear h; have h:=@Ho.eq_2; clear h
  have h:=@Hp.eq_def; clear h; have h:=@Hp.eq_1; clear h; have h:=@Hp.eq_2; clear h
  have h:=@Eu.eq_def; clear h; have h:=@Eu.eq_1; clear h; have h:=@Eu.eq_2; clear h
  have h:=@Fa.eq_def; clear h; have h:=@Fa.eq_1; clear h; have h:=@Fa.eq_2; clear h
  have h:=@Fq.eq_def; clear h; have h:=@Fq.eq_1; clear h; have h:=@Fq.eq_2; clear h
  have h:=@Gc.eq_def; clear h; have h:=@Gc.eq_1; clear h; have h:=@Gc.eq_2; clear h
  have h:=@Hl.eq_def; clear h; have h:=@Hl.eq_1; clear h; have h:=@Hl.eq_2; clear h
  have h:=@Hm.eq_def; clear h; have h:=@Hm.eq_1; clear h; have h:=@Hm.eq_2; clear h
  have h:=@Kz.eq_def; clear h; have h:=@Kz.eq_1; clear h; have h:=@Kz.eq_2; clear h
  have h:=@La.eq_def; clear h; have h:=@La.eq_1; clear h; have h:=@La.eq_2; clear h
  have h:=@Lb.eq_def; clear h; have h:=@Lb.eq_1; clear h; have h:=@Lb.eq_2; clear h
  have h:=@Lc.eq_def; clear h; have h:=@Lc.eq_1; clear h; have h:=@Lc.eq_2; clear h
  have h:=@Jh.eq_def; clear h; have h:=@Jh.eq_1; clear h; have h:=@Jh.eq_2; clear h
  have h:=@Ip.eq_def; clear h; have h:=@Ip.eq_1; clear h; have h:=@Ip.eq_2; clear h
  have h:=@Iu.eq_def; clear h; have h:=@Iu.eq_1; clear h; have h:=@Iu.eq_2; clear h
  have h:=@Ji.eq_def; clear h; have h:=@Ji.eq_1; clear h; have h:=@Ji.eq_2; clear h
  have h:=@Hr.eq_def; clear h; have h:=@Hr.eq_1; clear h; have h:=@Hr.eq_2; clear h
  have h:=@Ic.eq_def; clear h; have h:=@Ic.eq_1; clear h; have h:=@Ic.eq_2; clear h
  have h:=@Kd.eq_def; clear h; have h:=@Kd.eq_1; clear h; have h:=@Kd.eq_2; clear h
  have h:=@Je.eq_def; clear h; have h:=@Je.eq_1; clear h; have h:=@Je.eq_2; clear h
  have h:=@Iv.eq_def; clear h; have h:=@Iv.eq_1; clear h; have h:=@Iv.eq_2; clear h
  have h:=@Iw.eq_def; clear h; have h:=@Iw.eq_1; clear h; have h:=@Iw.eq_2; clear h
  have h:=@Ix.eq_def; clear h; have h:=@Ix.eq_1; clear h; have h:=@Ix.eq_2; clear h
  have h:=@Ks.eq_def; clear h; have h:=@Ks.eq_1; clear h; have h:=@Ks.eq_2; clear h
  have h:=@Kt.eq_def; clear h; have h:=@Kt.eq_1; clear h; have h:=@Kt.eq_2; clear h
  have h:=@Ku.eq_def; clear h; have h:=@Ku.eq_1; clear h; have h:=@Ku.eq_2; clear h
  have h:=@Jt.eq_def; clear h; have h:=@Jt.eq_1; clear h; have h:=@Jt.eq_2; clear h
  have h:=@Kv.eq_def; clear h; have h:=@Kv.eq_1; clear h; have h:=@Kv.eq_2; clear h
  have h:=@Ml.eq_def; clear h; have h:=@Ml.eq_1; clear h; have h:=@Ml.eq_2; clear h
  have h:=@Mm.eq_def; clear h; have h:=@Mm.eq_1; clear h; have h:=@Mm.eq_2; clear h
  have h:=@Jk.eq_def; clear h; have h:=@Jk.eq_1; clear h; have h:=@Jk.eq_2; clear h
  have h:=@Jl.eq_def; clear h; have h:=@Jl.eq_1; clear h; have h:=@Jl.eq_2; clear h
  have h:=@Mn.eq_def; clear h; have h:=@Mn.eq_1; clear h; have h:=@Mn.eq_2; clear h
  have h:=@Kj.eq_def; clear h; have h:=@Kj.eq_1; clear h; have h:=@Kj.eq_2; clear h
  have h:=@Mv.eq_def; clear h; have h:=@Mv.eq_1; clear h; have h:=@Mv.eq_2; clear h
  trivial
end Go.Proofs.YtcgffkkagmkhkaaGreatDoor
