/- The Go functions as plain Lean functions,by program. -/
import Derived.Test.YtfdcgchgkojfiaaGreatDoorBase
namespace Go.Proofs.YtfdcgchgkojfiaaGreatDoor
open Go
noncomputable section
structure GN where
  L : List Int
  at_ : Int
  deriving DecidableEq,Inhabited
structure Hx where
  Points : List Int
  Relay : Int
  Most : Int
  deriving DecidableEq,Inhabited
structure An where
  Race : ByteArray
  Who : ByteArray
  Club : ByteArray
  Rank : Int
  Relay : Bool
  deriving DecidableEq,Inhabited
structure Dn where
  Race : ByteArray
  Who : ByteArray
  Time : Int
  deriving DecidableEq,Inhabited
structure Ct where
  race_ : ByteArray
  who_ : ByteArray
  deriving DecidableEq,Inhabited
structure Cu where
  Num : Int
  Den : Int
  deriving DecidableEq,Inhabited
structure Cv where
  Key : ByteArray
  Points : Cu
  deriving DecidableEq,Inhabited
structure Cs where
  x_ : An
  points_ : Cu
  deriving DecidableEq,Inhabited
structure Jr where
  Race : ByteArray
  Time : Int
  deriving DecidableEq,Inhabited
structure Iz where
  Year : Int
  Month : Int
  Day : Int
  deriving DecidableEq,Inhabited
structure Js where
  Key : ByteArray
  Heats : Int
  Long : Int
  Gap : Int
  Break : Int
  deriving DecidableEq,Inhabited
structure Nu where
  From : Int
  To : Int
  deriving DecidableEq,Inhabited
structure Hr where
  Item : ByteArray
  Heat : Int
  Time : Nu
  deriving DecidableEq,Inhabited
structure Od where
  Key : ByteArray
  Race : ByteArray
  Clubs : List ByteArray
  Young : Int
  Old : Int
  deriving DecidableEq,Inhabited
structure Hi where
  At : Int
  Kind : Int
  Id : ByteArray
  Who : ByteArray
  Club : ByteArray
  Race : ByteArray
  Age : Int
  Time : Int
  deriving DecidableEq,Inhabited
def Cy : ByteArray:=⟨#[]⟩
def Ke : ByteArray:=⟨#[114,97]⟩
def Lz : ByteArray:=⟨#[114,98]⟩
def Ma : ByteArray:=⟨#[114,99]⟩
def Kx : ByteArray:=⟨#[97,110,110]⟩
def My : ByteArray:=⟨#[98,101,97]⟩
def Pv : ByteArray:=⟨#[99,105,100]⟩
def Pw : ByteArray:=⟨#[100,97,110]⟩
def Px : ByteArray:=⟨#[101,118,101]⟩
def Oz : ByteArray:=⟨#[98,108,117,101]⟩
def Yw : ByteArray:=⟨#[114,101,100]⟩
def Vh : ByteArray:=⟨#[103,114,101,121]⟩
def La : ByteArray:=⟨#[0,1,2,2,3,3,3,3,4,4,4,4,4,4,4,4,5,5,5,5,5,5,5,5,5,5,5,5,5,5,5,5,6,6,6,6,6,6,6,6,6,6,6,6,6,6,6,6,6,6,6,6,6,6,6,6,6,6,6,6,6,6,6,6,7,7,7,7,7,7,7,7,7,7,7,7,7,7,7,7,7,7,7,7,7,7,7,7,7,7,7,7,7,7,7,7,7,7,7,7,7,7,7,7,7,7,7,7,7,7,7,7,7,7,7,7,7,7,7,7,7,7,7,7,7,7,7,7,8,8,8,8,8,8,8,8,8,8,8,8,8,8,8,8,8,8,8,8,8,8,8,8,8,8,8,8,8,8,8,8,8,8,8,8,8,8,8,8,8,8,8,8,8,8,8,8,8,8,8,8,8,8,8,8,8,8,8,8,8,8,8,8,8,8,8,8,8,8,8,8,8,8,8,8,8,8,8,8,8,8,8,8,8,8,8,8,8,8,8,8,8,8,8,8,8,8,8,8,8,8,8,8,8,8,8,8,8,8,8,8,8,8,8,8,8,8,8,8,8,8,8,8,8,8,8,8]⟩
def Zm : ByteArray:=⟨#[114,122]⟩
def k_A : ByteArray:=⟨#[65]⟩
def Nf : ByteArray:=⟨#[97,98,99,100,101,102,103,104,105,106,107,108,109,110,111,112,113,114,115,116,117,118,119,120,121,122,48,49,50,51,52,53,54,55,56,57,45,95]⟩
def Py : ByteArray:=⟨#[32]⟩
def k_a : ByteArray:=⟨#[97]⟩
def k_r : ByteArray:=⟨#[114]⟩
def k_k : ByteArray:=⟨#[107]⟩
def k_i : ByteArray:=⟨#[105]⟩
def Lq (p_x : Int) (p_n : Int) : Option Int :=
  if decide (p_n < 1) then
  some 0
  else
  Chk (!decide (p_n = 0)) (
  Fh (fun (x1 : Int) =>
  some x1) (fun j1 =>
  if decide ((Int.tmod p_x p_n) < 0) then
  j1 (W ((Int.tmod p_x p_n) + p_n))
  else
  j1 (Int.tmod p_x p_n)))
def Nb (p_s_L : List Int) (p_s_at : Int) (p_n : Int) : Option (Int × Int) :=
  if decide ((p_s_L.length : Int) = 0) then
  Option.bind (Lq (W ((W (p_s_at + 1)) * 7919)) p_n) (fun r1 =>
  some (r1,W (p_s_at + 1)))
  else
  Chk (!decide ((p_s_L.length : Int) = 0)) (
  Chk (!decide ((p_s_L.length : Int) = 0)) (
  Chk (inB (Int.tmod (W ((W (p_s_at + 1)) - 1)) (p_s_L.length : Int)) p_s_L.length) (
  Option.bind (Lq (nth p_s_L (Int.tmod (W ((W (p_s_at + 1)) - 1)) (p_s_L.length : Int))) 1073741824) (fun r2 =>
  Option.bind (Lq (W (r2 + (W ((W (Int.tdiv (W ((W (p_s_at + 1)) - 1)) (p_s_L.length : Int))) * (W (7919 + (Int.tmod (W ((W (p_s_at + 1)) - 1)) (p_s_L.length : Int)))))))) p_n) (fun r3 =>
  some (r3,W (p_s_at + 1)))))))
def Ki (p_s_L : List Int) (p_s_at : Int) (p_l : List Int) : Option (Int × Int) :=
  Option.bind (Nb p_s_L p_s_at (p_l.length : Int)) (fun r1 =>
  Chk (inB r1.1 p_l.length) (
  some ((nth p_l r1.1),r1.2)))
def Mh (p_s_L : List Int) (p_s_at : Int) (p_low : Int) (p_high : Int) : Option (Int × Int) :=
  if decide (p_high < p_low) then
  some (p_low,p_s_at)
  else
  Option.bind (Nb p_s_L p_s_at (W ((W (p_high - p_low)) + 1))) (fun r1 =>
  some (W (p_low + r1.1),r1.2))
def Gy (r4 : Int × Int) (p_s_L : List Int) (j1 : (List Int) → Int → Option (Hx × Int)) : Nat → (List Int) → Int → Int → Int → Option (Hx × Int)
  | 0,_,_,_,_=>none
  | m1 + 1,x1,x2,x3,x4=>if decide (x4 < r4.1) then
  Chk (Qt x1.length) (
  Option.bind (Ki p_s_L x2 [0,1,2,3]) (fun r5 =>
  Gy r4 p_s_L j1 m1 (x1 ++ [x3]) r5.2 (Vt 0 (W (x3 - r5.1))) (W (x4 + 1))))
  else
  j1 x1 x2
def Kw (p_s_L : List Int) (p_s_at : Int) : Option (Hx × Int) :=
  Option.bind (Ki p_s_L p_s_at [1,2]) (fun r1 =>
  Option.bind (Ki p_s_L r1.2 [0,0,1,2]) (fun r2 =>
  Option.bind (Ki p_s_L r2.2 [10,9,7,5]) (fun r3 =>
  Option.bind (Mh p_s_L r3.2 0 5) (fun r4 =>
  Fh (fun (x1 : List Int) (x2 : Int) =>
  some ((Hx.mk x1 r1.1 r2.1),x2)) (fun j1 =>
  Gy r4 p_s_L j1 ((r4.1 - 0).toNat + 2) ([] : List Int) r4.2 r3.1 0)))))
def Mi (p_s_L : List Int) (p_s_at : Int) (p_n : Int) : Option (Bool × Int) :=
  Option.bind (Nb p_s_L p_s_at p_n) (fun r1 =>
  some (decide (r1.1 = 0),r1.2))
def Mj (p_s_L : List Int) (p_s_at : Int) (p_l : List ByteArray) : Option (ByteArray × Int) :=
  Option.bind (Nb p_s_L p_s_at (p_l.length : Int)) (fun r1 =>
  Chk (inB r1.1 p_l.length) (
  some ((nth p_l r1.1),r1.2)))
def Vi (p_x : Int) : Option Int :=
  Fh (fun (x1 : Int) (x2 : Int) =>
  Fh (fun (x3 : Int) (x4 : Int) =>
  Chk (inB (IntKind.wrap .u8 x3) La.size) (
  some (W (x4 + (W (Yo La (IntKind.wrap .u8 x3))))))) (fun j2 =>
  if decide (256 ≤ x1) then
  j2 (Dw .u32 x1 8) (W (x2 + 8))
  else
  j2 x1 x2)) (fun j1 =>
  if decide (65536 ≤ p_x) then
  j1 (Dw .u32 p_x 16) 16
  else
  j1 p_x 0)
def So (p_x : Int) : Option Int :=
  Fh (fun (x1 : Int) (x2 : Int) =>
  Fh (fun (x3 : Int) (x4 : Int) =>
  Fh (fun (x5 : Int) (x6 : Int) =>
  Chk (inB (IntKind.wrap .u8 x5) La.size) (
  some (W (x6 + (W (Yo La (IntKind.wrap .u8 x5))))))) (fun j3 =>
  if decide (256 ≤ x3) then
  j3 (Dw .u64 x3 8) (W (x4 + 8))
  else
  j3 x3 x4)) (fun j2 =>
  if decide (65536 ≤ x1) then
  j2 (Dw .u64 x1 16) (W (x2 + 16))
  else
  j2 x1 x2)) (fun j1 =>
  if decide (4294967296 ≤ p_x) then
  j1 (Dw .u64 p_x 32) 32
  else
  j1 p_x 0)
def Ry (p_x : Int) : Option Int :=
  if false then
  Option.bind (Vi (IntKind.wrap .u32 p_x)) (fun r1 =>
  some r1)
  else
  Option.bind (So p_x) (fun r2 =>
  some r2)
def Fl (s t : ByteArray) : Int:=Lib.compareBytes s.data.toList t.data.toList
def Ew (p_s : An) : Int :=
  if decide (p_s.Rank = 0) then
  301
  else
  p_s.Rank
def Oe (p_n : Int) : Int :=
  if decide (p_n < 0) then
  (-1)
  else
  if decide (0 < p_n) then
  1
  else
  0
def Ey (p_a : An) (p_b : An) : Int :=
  if !decide (p_a.Race = p_b.Race) then
  (Fl p_a.Race p_b.Race)
  else
  if !decide ((Ew p_a) = (Ew p_b)) then
  (Oe (W ((Ew p_a) - (Ew p_b))))
  else
  (Fl p_a.Who p_b.Who)
def Da (p_a : Int) (j2 : (List An) → Option (List An)) : Nat → (List An) → Int → Option (List An)
  | 0,_,_=>none
  | m2 + 1,x3,x4=>Fh (fun (x5 : Bool) =>
  if x5 then
  Chk (inB (W (x4 - 1)) x3.length) (
  Chk (inB x4 x3.length) (
  Chk (inB x4 x3.length) (
  Chk (inB (W (x4 - 1)) (x3.set x4.toNat (nth x3 (W (x4 - 1)))).length) (
  Da p_a j2 m2 ((x3.set x4.toNat (nth x3 (W (x4 - 1)))).set ((W (x4 - 1)).toNat) (nth x3 x4)) (W (x4 - 1))))))
  else
  j2 x3) (fun j3 =>
  if decide (p_a < x4) then
  Chk (inB x4 x3.length) (
  Chk (inB (W (x4 - 1)) x3.length) (
  j3 (decide ((Ey (nth x3 x4) (nth x3 (W (x4 - 1)))) < 0))))
  else
  j3 false)
def Dg (p_b : Int) (p_a : Int) (j1 : (List An) → Option (List An)) : Nat → (List An) → Int → Option (List An)
  | 0,_,_=>none
  | m1 + 1,x1,x2=>if decide (x2 < p_b) then
  Fh (fun (x3 : List An) =>
  Dg p_b p_a j1 m1 x3 (W (x2 + 1))) (fun j2 =>
  Da p_a j2 ((x2 - p_a).toNat + 2) x1 x2)
  else
  j1 x1
def Ei (p_data : List An) (p_a : Int) (p_b : Int) : Option (List An) :=
  Fh (fun (x1 : List An) =>
  some x1) (fun j1 =>
  Dg p_b p_a j1 ((p_b - (W (p_a + 1))).toNat + 2) p_data (W (p_a + 1)))
def Dq (p_data : List An) : Nat → Int → Int → Int → Bool → Option (List An)
  | 0,_,_,_,_=>none
  | _ + 1,x1,x2,x3,x4=>if decide ((W (x2 - x1)) ≤ 12) then
  Option.bind (Ei p_data x1 x2) (fun r1 =>
  some r1)
  else
  if decide (x3 = 0) then
  none
  else
  if !x4 then
  none
  else
  none
def Fv (p_data : List An) (p_a : Int) (p_b : Int) (p_limit : Int) : Option (List An) :=
  Dq p_data 4611686018427387904 p_a p_b p_limit true
def Ea (p_x : List An) : Option (List An) :=
  Option.bind (Ry (IntKind.wrap .u64 (p_x.length : Int))) (fun r1 =>
  Option.bind (Fv p_x 0 (p_x.length : Int) r1) (fun r2 =>
  some r2))
def Gh (p_s_L : List Int) (y1 : ByteArray) (r1 : Bool × Int) (j2 : (List An) → Int → Option ((List An) × Int)) : List ByteArray → Nat → (List An) → Int → Option ((List An) × Int)
  | [],_,x3,x4=>j2 x3 x4
  | y2 :: ys2,i2,x3,x4=>Fh (fun (x5 : List An) (x6 : Int) =>
  Gh p_s_L y1 r1 j2 ys2 (i2 + 1) x5 x6) (fun j3 =>
  Option.bind (Mi p_s_L x4 4) (fun r2 =>
  Fh (fun (x7 : List An) (x8 : Int) =>
  j3 x7 x8) (fun j4 =>
  if !r2.1 then
  Option.bind (Mj p_s_L r2.2 [Oz,Oz,Yw,Vh,Cy]) (fun r3 =>
  Option.bind (Ki p_s_L r3.2 [0,1,2,2,3,4]) (fun r4 =>
  Chk (Qt x3.length) (
  j4 (x3 ++ [(An.mk y1 y2 r3.1 r4.1 r1.1)]) r4.2)))
  else
  j4 x3 r2.2)))
def Fz (x9 : List An) (i3 : Nat) (j7 : Int → Option ((List An) × Int)) : List An → Nat → Int → Option ((List An) × Int)
  | [],_,x11=>j7 x11
  | y4 :: ys4,i4,x11=>Fh (fun (x12 : Int) =>
  Fz x9 i3 j7 ys4 (i4 + 1) x12) (fun j8 =>
  Fh (fun (x13 : Int) =>
  j8 x13) (fun j9 =>
  if (((decide (0 < y4.Rank)) && (decide ((Int.tmod y4.Rank 10) < (Int.tmod ((nth x9 (i3 : Int)).Rank) 10)))) && (decide (0 < ((nth x9 (i3 : Int)).Rank)))) then
  j9 (W (x11 + 1))
  else
  j9 x11))
def Fm (j5 : (List An) → Option ((List An) × Int)) : List An → Nat → (List An) → Option ((List An) × Int)
  | [],_,x9=>j5 x9
  | _ :: ys3,i3,x9=>Fh (fun (x10 : List An) =>
  Fm j5 ys3 (i3 + 1) x10) (fun j6 =>
  Chk (inB (i3 : Int) x9.length) (
  Fh (fun (x11 : Int) =>
  Fh (fun (x14 : List An) =>
  j6 x14) (fun j10 =>
  if decide (0 < ((nth x9 (i3 : Int)).Rank)) then
  Chk (inB (i3 : Int) x9.length) (
  j10 (x9.set ((i3 : Int).toNat) (An.mk ((nth x9 (i3 : Int)).Race) ((nth x9 (i3 : Int)).Who) ((nth x9 (i3 : Int)).Club) (W (((nth x9 (i3 : Int)).Rank) + (W (10 * x11)))) ((nth x9 (i3 : Int)).Relay))))
  else
  j10 x9)) (fun j7 =>
  Fz x9 i3 j7 x9 0 1)))
def Ez (j11 : (List An) → Option ((List An) × Int)) : List An → Nat → (List An) → Option ((List An) × Int)
  | [],_,x15=>j11 x15
  | _ :: ys5,i5,x15=>Chk (inB (i5 : Int) x15.length) (
  Chk (inB (i5 : Int) x15.length) (
  Ez j11 ys5 (i5 + 1) (x15.set ((i5 : Int).toNat) (An.mk ((nth x15 (i5 : Int)).Race) ((nth x15 (i5 : Int)).Who) ((nth x15 (i5 : Int)).Club) (W (Int.tdiv ((nth x15 (i5 : Int)).Rank) 10)) ((nth x15 (i5 : Int)).Relay)))))
def Ep (p_s_L : List Int) (j1 : (List An) → Int → Option ((List An) × Int)) : List ByteArray → Nat → (List An) → Int → Option ((List An) × Int)
  | [],_,x1,x2=>j1 x1 x2
  | y1 :: ys1,i1,x1,x2=>Option.bind (Mi p_s_L x2 3) (fun r1 =>
  Fh (fun (x3 : List An) (x4 : Int) =>
  Fh (fun (x9 : List An) =>
  Fh (fun (x15 : List An) =>
  Option.bind (Ea x15) (fun r5 =>
  Chk (decide (x1.length + r5.length < 1073741824)) (
  Ep p_s_L j1 ys1 (i1 + 1) (x1 ++ r5) x4))) (fun j11 =>
  Ez j11 x9 0 x9)) (fun j5 =>
  Fm j5 x3 0 x3)) (fun j2 =>
  Gh p_s_L y1 r1 j2 ([Kx,My,Pv,Pw,Px] : List ByteArray) 0 ([] : List An) r1.2))
def Km (p_s_L : List Int) (p_s_at : Int) : Option ((List An) × Int) :=
  Fh (fun (x1 : List An) (x2 : Int) =>
  some (x1,x2)) (fun j1 =>
  Ep p_s_L j1 ([Ke,Lz,Ma] : List ByteArray) 0 ([] : List An) p_s_at)
def Qw (p_s_L : List Int) (p_s_at : Int) (p_low : Int) (p_high : Int) : Option (Int × Int) :=
  Option.bind (Mi p_s_L p_s_at 12) (fun r1 =>
  if r1.1 then
  Option.bind (Ki p_s_L r1.2 [W (p_low - 1),W (p_high + 1),p_low,p_high,(-1099511627776),1099511627776]) (fun r2 =>
  some (r2.1,r2.2))
  else
  Option.bind (Mh p_s_L r1.2 p_low p_high) (fun r3 =>
  some (r3.1,r3.2)))
def Ip (r1 : Int × Int) (p_s_L : List Int) (j1 : (List Dn) → Int → Option ((List Dn) × Int)) : Nat → (List Dn) → Int → Int → Option ((List Dn) × Int)
  | 0,_,_,_=>none
  | m1 + 1,x1,x2,x3=>if decide (x3 < r1.1) then
  Option.bind (Mj p_s_L x2 [Ke,Lz,Ma,Zm]) (fun r2 =>
  Option.bind (Mj p_s_L r2.2 [Kx,Kx,My]) (fun r3 =>
  Option.bind (Ki p_s_L r3.2 [0,1,2000,3000,4567,9000]) (fun r4 =>
  Option.bind (Mi p_s_L r4.2 80) (fun r5 =>
  Fh (fun (x4 : ByteArray) (x5 : ByteArray) (x6 : Int) (x7 : Int) =>
  Chk (Qt x1.length) (
  Ip r1 p_s_L j1 m1 (x1 ++ [(Dn.mk x4 x5 x6)]) x7 (W (x3 + 1)))) (fun j2 =>
  if r5.1 then
  Fh (fun (x8 : ByteArray) (x9 : ByteArray) (x10 : Int) (x11 : Int) =>
  j2 x8 x9 x10 x11) (fun j3 =>
  Option.bind (Mj p_s_L r5.2 [r2.1,Cy]) (fun r6 =>
  Option.bind (Mj p_s_L r6.2 [r3.1,k_A]) (fun r7 =>
  Option.bind (Qw p_s_L r7.2 0 360000) (fun r8 =>
  j3 r6.1 r7.1 r8.1 r8.2))))
  else
  j2 r2.1 r3.1 r4.1 r5.2)))))
  else
  j1 x1 x2
def Nv (p_s_L : List Int) (p_s_at : Int) : Option ((List Dn) × Int) :=
  Option.bind (Mh p_s_L p_s_at 0 8) (fun r1 =>
  Fh (fun (x1 : List Dn) (x2 : Int) =>
  some (x1,x2)) (fun j1 =>
  Ip r1 p_s_L j1 ((r1.1 - 0).toNat + 2) ([] : List Dn) r1.2 0))
def Dd (p_n : Int) (p_low : Int) (p_high : Int) : Bool :=
  ((decide (p_low ≤ p_n)) && (decide (p_n ≤ p_high)))
def Gz (p_t : Hx) (j1 : Option Int) : List Int → Nat → Option Int
  | [],_=>j1
  | y1 :: ys1,i1=>if !(Dd y1 0 10000) then
  some 1
  else
  Fh (fun (c1 : Bool) =>
  if c1 then
  some 7
  else
  Gz p_t j1 ys1 (i1 + 1)) (fun j2 =>
  if (decide (0 < (i1 : Int))) then Chk (inB (W ((i1 : Int) - 1)) p_t.Points.length) (
  j2 ((decide (0 < (i1 : Int))) && (decide ((nth p_t.Points (W ((i1 : Int) - 1))) < y1)))) else j2 ((decide (0 < (i1 : Int))) && true))
def Mk (p_t : Hx) : Option Int :=
  if decide (40 < (p_t.Points.length : Int)) then
  some 2
  else
  Fh (if ((!(Dd p_t.Relay 1 10)) || (!(Dd p_t.Most 0 10))) then
  some 1
  else
  some 0) (fun j1 =>
  Gz p_t j1 p_t.Points 0)
def Sp (s c : ByteArray) : Option ByteArray :=
  Chk (decide (s.size ≤ 9223372036854775807)) (Chk (decide (c.size < 4294967281)) (Chk (c.data.toList.all fun b=>decide (b.toNat < 128)) (some ⟨(Lib.trimS s.data.toList c.data.toList).toArray⟩)))
def Hf (p_s : ByteArray) : Option Bool :=
  Fh (fun (c1 : Bool) =>
  Fh (fun (c2 : Bool) =>
  Fh (fun (c3 : Bool) =>
  some c3) (fun j3 =>
  if c2 then Option.bind (Sp p_s Nf) (fun r1 =>
  j3 (c2 && (decide (r1 = Cy)))) else j3 (c2 && true))) (fun j2 =>
  if c1 then Chk (inB 0 p_s.size) (
  j2 (c1 && (decide ((Yo p_s 0) ≤ 122)))) else j2 (c1 && true))) (fun j1 =>
  if ((decide (1 ≤ (p_s.size : Int))) && (decide ((p_s.size : Int) ≤ 40))) then Chk (inB 0 p_s.size) (
  j1 (((decide (1 ≤ (p_s.size : Int))) && (decide ((p_s.size : Int) ≤ 40))) && (decide (97 ≤ (Yo p_s 0))))) else j1 (((decide (1 ≤ (p_s.size : Int))) && (decide ((p_s.size : Int) ≤ 40))) && true))
def Ia (p_a : Int) (p_b : Int) : Int :=
  Fh (fun (x1 : Int) =>
  Fh (fun (x2 : Int) =>
  W (x1 - x2)) (fun j2 =>
  if decide (p_b = 0) then
  j2 301
  else
  j2 p_b)) (fun j1 =>
  if decide (p_a = 0) then
  j1 301
  else
  j1 p_a)
def Jf (j1 : Int) : List Int → Nat → Int
  | [],_=>j1
  | y1 :: ys1,i1=>if !decide (y1 = 0) then
  y1
  else
  Jf j1 ys1 (i1 + 1)
def Qx (p_vals : List Int) : Int :=
  Fh (0) (fun j1 =>
  Jf j1 p_vals 0)
def Mz (p_a : An) (p_b : An) : Int :=
  (Qx [(Fl p_a.Race p_b.Race),(Ia p_a.Rank p_b.Rank),(Fl p_a.Who p_b.Who)])
def Jg (p_l : List An) (x2 : Int) (j2 : Int → Option (List (List An))) : Nat → Int → Option (List (List An))
  | 0,_=>none
  | m2 + 1,x3=>Fh (fun (c1 : Bool) =>
  if c1 then
  Jg p_l x2 j2 m2 (W (x3 + 1))
  else
  j2 x3) (fun j3 =>
  if (decide (x3 < (p_l.length : Int))) then Chk (inB x3 p_l.length) (
  Chk (inB x2 p_l.length) (
  j3 ((decide (x3 < (p_l.length : Int))) && (decide (((nth p_l x3).Race) = ((nth p_l x2).Race)))))) else j3 ((decide (x3 < (p_l.length : Int))) && true))
def Ic (p_l : List An) (j1 : (List (List An)) → Option (List (List An))) : Nat → (List (List An)) → Int → Option (List (List An))
  | 0,_,_=>none
  | m1 + 1,x1,x2=>if decide (x2 < (p_l.length : Int)) then
  Fh (fun (x3 : Int) =>
  Chk (Vw x2 x3 p_l.length) (
  Chk (Qt x1.length) (
  Ic p_l j1 m1 (x1 ++ [cut p_l x2 x3]) x3))) (fun j2 =>
  Jg p_l x2 j2 (((p_l.length : Int) - (W (x2 + 1))).toNat + 2) (W (x2 + 1)))
  else
  j1 x1
def Ng (p_l : List An) : Option (List (List An)) :=
  Fh (fun (x1 : List (List An)) =>
  some x1) (fun j1 =>
  Ic p_l j1 (((p_l.length : Int) - 0).toNat + 2) ([] : List (List An)) 0)
def Nh (p_x : An) (p_a1 : List An) : Option Bool :=
  Chk (inB 0 p_a1.length) (
  some (!decide (p_x.Relay = ((nth p_a1 0).Relay))))
def Dm (p_f_0 : List An) (j1 : Option Int) : List An → Nat → Option Int
  | [],_=>j1
  | y1 :: ys1,i1=>Option.bind (Nh y1 p_f_0) (fun r1 =>
  if r1 then
  some (i1 : Int)
  else
  Dm p_f_0 j1 ys1 (i1 + 1))
def Gq (p_s : List An) (p_f_0 : List An) : Option Int :=
  Fh (some (-1)) (fun j1 =>
  Dm p_f_0 j1 p_s 0)
def Ge (p_s : List An) (p_f_0 : List An) : Option Bool :=
  Option.bind (Gq p_s p_f_0) (fun r1 =>
  some (decide (0 ≤ r1)))
def Hu (j1 : (List (Ct × Bool)) → Option Int) : List An → Nat → (List (Ct × Bool)) → Option Int
  | [],_,x1=>j1 x1
  | y1 :: ys1,i1,x1=>if Ff x1 (Ct.mk y1.Race y1.Who) false then
  some 6
  else
  Hu j1 ys1 (i1 + 1) (Es x1 (Ct.mk y1.Race y1.Who) true)
def Hb (j2 : Option Int) : List (List An) → Nat → Option Int
  | [],_=>j2
  | y2 :: ys2,i2=>Option.bind (Ge y2 y2) (fun r3 =>
  if r3 then
  some 3
  else
  Hb j2 ys2 (i2 + 1))
def Hv (y3 : (List An)) (j4 : Option Int) : List An → Nat → Option Int
  | [],_=>j4
  | y4 :: ys4,i4=>Fh (fun (c1 : Bool) =>
  if c1 then
  some 16
  else
  Hv y3 j4 ys4 (i4 + 1)) (fun j5 =>
  if ((decide (0 < y4.Rank)) && (!decide (y4.Rank = (W ((i4 : Int) + 1))))) then Fh (fun (c2 : Bool) =>
  j5 (((decide (0 < y4.Rank)) && (!decide (y4.Rank = (W ((i4 : Int) + 1))))) && c2)) (fun j6 =>
  if (decide ((i4 : Int) = 0)) then j6 ((decide ((i4 : Int) = 0)) || true) else Chk (inB (W ((i4 : Int) - 1)) y3.length) (
  j6 ((decide ((i4 : Int) = 0)) || (!decide (y4.Rank = ((nth y3 (W ((i4 : Int) - 1))).Rank)))))) else j5 (((decide (0 < y4.Rank)) && (!decide (y4.Rank = (W ((i4 : Int) + 1))))) && true))
def Gj (j3 : Option Int) : List (List An) → Nat → Option Int
  | [],_=>j3
  | y3 :: ys3,i3=>Fh (Gj j3 ys3 (i3 + 1)) (fun j4 =>
  Hv y3 j4 y3 0)
def Io (y5 : (List An)) (j8 : Option Int) : Nat → Int → Option Int
  | 0,_=>none
  | m1 + 1,x2=>if decide (x2 < (y5.length : Int)) then
  Chk (inB x2 y5.length) (
  Fh (fun (c3 : Bool) =>
  if c3 then
  some 12
  else
  Io y5 j8 m1 (W (x2 + 1))) (fun j9 =>
  if (decide (0 < ((nth y5 x2).Rank))) then Chk (inB x2 y5.length) (
  Chk (inB (W (x2 - 10)) y5.length) (
  j9 ((decide (0 < ((nth y5 x2).Rank))) && (decide (((nth y5 x2).Rank) = ((nth y5 (W (x2 - 10))).Rank)))))) else j9 ((decide (0 < ((nth y5 x2).Rank))) && true)))
  else
  j8
def Hc (j7 : Option Int) : List (List An) → Nat → Option Int
  | [],_=>j7
  | y5 :: ys5,i5=>Fh (Hc j7 ys5 (i5 + 1)) (fun j8 =>
  Io y5 j8 (((y5.length : Int) - 10).toNat + 2) 10)
def Mc (p_l : List An) : Option Int :=
  Fh (fun (x1 : List (Ct × Bool)) =>
  Option.bind (Ng p_l) (fun r1 =>
  Fh (Fh (Fh (some 0) (fun j7 =>
  Hc j7 r1 0)) (fun j3 =>
  Gj j3 r1 0)) (fun j2 =>
  Hb j2 r1 0))) (fun j1 =>
  Hu j1 p_l 0 ([] : List (Ct × Bool)))
def Gi (p_l : List An) (j1 : Option Int) : List An → Nat → Option Int
  | [],_=>j1
  | y1 :: ys1,i1=>Option.bind (Hf y1.Race) (fun r1 =>
  Fh (fun (c1 : Bool) =>
  Fh (fun (c2 : Bool) =>
  if c2 then
  some 5
  else
  if !(Dd y1.Rank 0 300) then
  some 1
  else
  Fh (fun (x1 : Bool) =>
  if x1 then
  some 7
  else
  Gi p_l j1 ys1 (i1 + 1)) (fun j5 =>
  if decide (0 < (i1 : Int)) then
  Chk (inB (W ((i1 : Int) - 1)) p_l.length) (
  j5 (decide (0 ≤ (Mz (nth p_l (W ((i1 : Int) - 1))) y1))))
  else
  j5 false)) (fun j3 =>
  if c1 then j3 (c1 || true) else Fh (fun (c3 : Bool) =>
  j3 (c1 || c3)) (fun j4 =>
  if (!decide (y1.Club = Cy)) then Option.bind (Hf y1.Club) (fun r3 =>
  j4 ((!decide (y1.Club = Cy)) && (!r3))) else j4 ((!decide (y1.Club = Cy)) && true)))) (fun j2 =>
  if (!r1) then j2 ((!r1) || true) else Option.bind (Hf y1.Who) (fun r2 =>
  j2 ((!r1) || (!r2)))))
def Lt (p_l : List An) : Option Int :=
  if decide (2000 < (p_l.length : Int)) then
  some 2
  else
  Fh (Option.bind (Mc p_l) (fun r4 =>
  some r4)) (fun j1 =>
  Gi p_l j1 p_l 0)
def Lj (p_t : Hx) (p_l : List An) : Option Int :=
  Option.bind (Mk p_t) (fun r1 =>
  if !decide (r1 = 0) then
  some r1
  else
  Option.bind (Lt p_l) (fun r2 =>
  some r2))
def Gd : Cu :=
  (Cu.mk 0 1)
def Ii (j1 : Int → Option Cu) : Nat → Int → Int → Option Cu
  | 0,_,_=>none
  | m1 + 1,x1,x2=>if decide (0 < x1) then
  Chk (!decide (x1 = 0)) (
  Ii j1 m1 (Int.tmod x2 x1) x1)
  else
  j1 x2
def Kp (p_a : Int) (p_b : Int) : Option Cu :=
  Fh (fun (x2 : Int) =>
  Chk (!decide (x2 = 0)) (
  Chk (!decide (x2 = 0)) (
  some (Cu.mk (W (Int.tdiv p_a x2)) (W (Int.tdiv p_b x2)))))) (fun j1 =>
  Ii j1 ((p_a - 0).toNat + 2) p_a p_b)
def Jc (p_t : Hx) (j1 : (List (ByteArray × Int)) → (List Int) → (List Cs) → Option (List Cs)) : List An → Nat → (List (ByteArray × Int)) → (List Int) → (List Cs) → Option (List Cs)
  | [],_,x1,x2,x3=>j1 x1 x2 x3
  | y1 :: ys1,i1,x1,x2,x3=>Fh (fun (x4 : List (ByteArray × Int)) (x5 : List Int) (x6 : List Cs) =>
  Jc p_t j1 ys1 (i1 + 1) x4 x5 x6) (fun j2 =>
  if ((decide (y1.Rank = 0)) || (decide (y1.Club = Cy))) then
  j2 x1 x2 x3
  else
  Fh (fun (x7 : List Int) =>
  Chk (Qt x3.length) (
  j2 (Es x1 y1.Club (W ((Ff x1 y1.Club 0) + 1))) x7 (x3 ++ [(Cs.mk y1 Gd)]))) (fun j3 =>
  if ((decide (p_t.Most = 0)) || (decide ((Ff (Es x1 y1.Club (W ((Ff x1 y1.Club 0) + 1))) y1.Club 0) ≤ p_t.Most))) then
  Chk (Qt x2.length) (
  j3 (x2 ++ [(x3.length : Int)]))
  else
  j3 x2))
def Jd (p_t : Hx) (x2 : List Int) (x8 : List Cs) (x9 : Int) (j5 : Int → Int → Option (List Cs)) : Nat → Int → Int → Option (List Cs)
  | 0,_,_=>none
  | m2 + 1,x10,x11=>Fh (fun (c1 : Bool) =>
  if c1 then
  Fh (fun (x12 : Int) =>
  Jd p_t x2 x8 x9 j5 m2 (W (x10 + 1)) x12) (fun j7 =>
  Fh (fun (x13 : Int) =>
  j7 x13) (fun j8 =>
  if decide (x10 < (p_t.Points.length : Int)) then
  Chk (inB x10 p_t.Points.length) (
  j8 (W (x11 + (nth p_t.Points x10))))
  else
  j8 x11))
  else
  j5 x10 x11) (fun j6 =>
  if (decide (x10 < (x2.length : Int))) then Chk (inB x10 x2.length) (
  Chk (inB (nth x2 x10) x8.length) (
  Chk (inB x9 x2.length) (
  Chk (inB (nth x2 x9) x8.length) (
  j6 ((decide (x10 < (x2.length : Int))) && (decide ((((nth x8 (nth x2 x10)).x_).Rank) = (((nth x8 (nth x2 x9)).x_).Rank)))))))) else j6 ((decide (x10 < (x2.length : Int))) && true))
def Ie (x10 : Int) (x9 : Int) (x14 : Int) (x2 : List Int) (j10 : (List Cs) → Option (List Cs)) : Nat → (List Cs) → Int → Option (List Cs)
  | 0,_,_=>none
  | m3 + 1,x15,x16=>if decide (x16 < ((x10.toNat - x9.toNat : Nat) : Int)) then
  Chk (inB x16 (x10.toNat - x9.toNat)) (
  Option.bind (Kp x14 (W (x10 - x9))) (fun r1 =>
  Chk (inB (nth (cut x2 x9 x10) x16) x15.length) (
  Ie x10 x9 x14 x2 j10 m3 (x15.set ((nth (cut x2 x9 x10) x16).toNat) (Cs.mk ((nth x15 (nth (cut x2 x9 x10) x16)).x_) r1)) (W (x16 + 1)))))
  else
  j10 x15
def Hd (x2 : List Int) (p_l : List An) (p_t : Hx) (j4 : (List Cs) → Option (List Cs)) : Nat → (List Cs) → Int → Option (List Cs)
  | 0,_,_=>none
  | m1 + 1,x8,x9=>if decide (x9 < (x2.length : Int)) then
  Fh (fun (x10 : Int) (x11 : Int) =>
  Chk (inB 0 p_l.length) (
  Fh (fun (x14 : Int) =>
  Chk (Vw x9 x10 x2.length) (
  Fh (fun (x15 : List Cs) =>
  Hd x2 p_l p_t j4 m1 x15 x10) (fun j10 =>
  Ie x10 x9 x14 x2 j10 ((((x10.toNat - x9.toNat : Nat) : Int) - 0).toNat + 2) x8 0))) (fun j9 =>
  if (nth p_l 0).Relay then
  j9 (W (x11 * p_t.Relay))
  else
  j9 x11))) (fun j5 =>
  Jd p_t x2 x8 x9 j5 (((x2.length : Int) - x9).toNat + 2) x9 0)
  else
  j4 x8
def Pz (p_t : Hx) (p_l : List An) : Option (List Cs) :=
  Fh (fun (x1 : List (ByteArray × Int)) (x2 : List Int) (x3 : List Cs) =>
  Fh (fun (x8 : List Cs) =>
  some x8) (fun j4 =>
  Hd x2 p_l p_t j4 (((x2.length : Int) - 0).toNat + 2) x3 0)) (fun j1 =>
  Jc p_t j1 p_l 0 ([] : List (ByteArray × Int)) ([] : List Int) ([] : List Cs))
def Jo (p_t : Hx) (j1 : (List Cs) → Option (List Cs)) : List (List An) → Nat → (List Cs) → Option (List Cs)
  | [],_,x1=>j1 x1
  | y1 :: ys1,i1,x1=>Option.bind (Pz p_t y1) (fun r3 =>
  Chk (decide (x1.length + r3.length < 1073741824)) (
  Jo p_t j1 ys1 (i1 + 1) (x1 ++ r3)))
def Nc (p_t : Hx) (p_l : List An) : Option (List Cs) :=
  Option.bind (Ng p_l) (fun r1 =>
  Fh (fun (x1 : List Cs) =>
  some x1) (fun j1 =>
  Jo p_t j1 r1 0 ([] : List Cs)))
def Iq (j1 : (List Cv) → Option ((List Cv) × Int)) : List Cs → Nat → (List Cv) → Option ((List Cv) × Int)
  | [],_,x1=>j1 x1
  | y1 :: ys1,i1,x1=>Chk (decide (y1.x_.Race.size + Py.size < 1073741824)) (
  Chk (decide ((y1.x_.Race ++ Py).size + y1.x_.Who.size < 1073741824)) (
  Chk (Qt x1.length) (
  Iq j1 ys1 (i1 + 1) (x1 ++ [(Cv.mk ((y1.x_.Race ++ Py) ++ y1.x_.Who) y1.points_)]))))
def Pa (p_t : Hx) (p_l : List An) : Option ((List Cv) × Int) :=
  Option.bind (Lj p_t p_l) (fun r1 =>
  if !decide (r1 = 0) then
  some (([] : List Cv),r1)
  else
  Option.bind (Nc p_t p_l) (fun r2 =>
  Fh (fun (x1 : List Cv) =>
  some (x1,0)) (fun j1 =>
  Iq j1 r2 0 ([] : List Cv))))
def Fb (j1 : (List Cv) → Option (List Cv)) : List Cv → Nat → (List Cv) → Option (List Cv)
  | [],_,x1=>j1 x1
  | _ :: ys1,i1,x1=>Chk (inB (i1 : Int) x1.length) (
  Fb j1 ys1 (i1 + 1) (x1.set ((i1 : Int).toNat) (Cv.mk Cy (Cu.mk 0 0))))
def Iw (p_l : List Cv) : Option (List Cv) :=
  Fh (fun (x1 : List Cv) =>
  some x1) (fun j1 =>
  Fb j1 p_l 0 p_l)
def Qy (p_a : Cu) (p_b : Cu) : Option Cu :=
  Option.bind (Kp (W ((W (p_a.Num * p_b.Den)) + (W (p_b.Num * p_a.Den)))) (W (p_a.Den * p_b.Den))) (fun r1 =>
  some r1)
def Ir (j1 : (List (ByteArray × Cu)) → Option (List (ByteArray × Cu))) : List An → Nat → (List (ByteArray × Cu)) → Option (List (ByteArray × Cu))
  | [],_,x1=>j1 x1
  | y1 :: ys1,i1,x1=>Fh (fun (x2 : List (ByteArray × Cu)) =>
  Ir j1 ys1 (i1 + 1) x2) (fun j2 =>
  Fh (fun (x3 : List (ByteArray × Cu)) =>
  j2 x3) (fun j3 =>
  if !decide (y1.Club = Cy) then
  j3 (Es x1 y1.Club Gd)
  else
  j3 x1))
def Hm (j4 : (List (ByteArray × Cu)) → Option (List (ByteArray × Cu))) : List Cs → Nat → (List (ByteArray × Cu)) → Option (List (ByteArray × Cu))
  | [],_,x4=>j4 x4
  | y2 :: ys2,i2,x4=>Option.bind (Qy (Ff x4 y2.x_.Club (Cu.mk 0 0)) y2.points_) (fun r2 =>
  Hm j4 ys2 (i2 + 1) (Es x4 y2.x_.Club r2))
def Nw (p_t : Hx) (p_l : List An) : Option (List (ByteArray × Cu)) :=
  Fh (fun (x1 : List (ByteArray × Cu)) =>
  Option.bind (Nc p_t p_l) (fun r1 =>
  Fh (fun (x4 : List (ByteArray × Cu)) =>
  some x4) (fun j4 =>
  Hm j4 r1 0 x1))) (fun j1 =>
  Ir j1 p_l 0 ([] : List (ByteArray × Cu)))
def Kq (p_a : Cv) (p_b : Cv) : Int :=
  (Fl p_a.Key p_b.Key)
def De (p_a : Int) (j2 : (List Cv) → Option (List Cv)) : Nat → (List Cv) → Int → Option (List Cv)
  | 0,_,_=>none
  | m2 + 1,x3,x4=>Fh (fun (x5 : Bool) =>
  if x5 then
  Chk (inB (W (x4 - 1)) x3.length) (
  Chk (inB x4 x3.length) (
  Chk (inB x4 x3.length) (
  Chk (inB (W (x4 - 1)) (x3.set x4.toNat (Cv.mk ((nth x3 (W (x4 - 1))).Key) ((nth x3 (W (x4 - 1))).Points))).length) (
  De p_a j2 m2 ((x3.set x4.toNat (Cv.mk ((nth x3 (W (x4 - 1))).Key) ((nth x3 (W (x4 - 1))).Points))).set ((W (x4 - 1)).toNat) (Cv.mk ((nth x3 x4).Key) ((nth x3 x4).Points))) (W (x4 - 1))))))
  else
  j2 x3) (fun j3 =>
  if decide (p_a < x4) then
  Chk (inB x4 x3.length) (
  Chk (inB (W (x4 - 1)) x3.length) (
  j3 (decide ((Kq (Cv.mk ((nth x3 x4).Key) ((nth x3 x4).Points)) (Cv.mk ((nth x3 (W (x4 - 1))).Key) ((nth x3 (W (x4 - 1))).Points))) < 0))))
  else
  j3 false)
def Dh (p_b : Int) (p_a : Int) (j1 : (List Cv) → Option (List Cv)) : Nat → (List Cv) → Int → Option (List Cv)
  | 0,_,_=>none
  | m1 + 1,x1,x2=>if decide (x2 < p_b) then
  Fh (fun (x3 : List Cv) =>
  Dh p_b p_a j1 m1 x3 (W (x2 + 1))) (fun j2 =>
  De p_a j2 ((x2 - p_a).toNat + 2) x1 x2)
  else
  j1 x1
def Et (p_data : List Cv) (p_a : Int) (p_b : Int) : Option (List Cv) :=
  Fh (fun (x1 : List Cv) =>
  some x1) (fun j1 =>
  Dh p_b p_a j1 ((p_b - (W (p_a + 1))).toNat + 2) p_data (W (p_a + 1)))
def Du (p_data : List Cv) : Nat → Int → Int → Int → Bool → Option (List Cv)
  | 0,_,_,_,_=>none
  | _ + 1,x1,x2,x3,x4=>if decide ((W (x2 - x1)) ≤ 12) then
  Option.bind (Et p_data x1 x2) (fun r1 =>
  some r1)
  else
  if decide (x3 = 0) then
  none
  else
  if !x4 then
  none
  else
  none
def Gr (p_data : List Cv) (p_a : Int) (p_b : Int) (p_limit : Int) : Option (List Cv) :=
  Du p_data 4611686018427387904 p_a p_b p_limit true
def Gp (p_x : List Cv) : Option (List Cv) :=
  Option.bind (Ry (IntKind.wrap .u64 (p_x.length : Int))) (fun r1 =>
  Option.bind (Gr p_x 0 (p_x.length : Int) r1) (fun r2 =>
  some r2))
def Jp (j1 : (List Cv) → Option (List Cv)) : List (ByteArray × Cu) → (List Cv) → Option (List Cv)
  | [],x1=>j1 x1
  | y1 :: ys1,x1=>Option.bind (α:=(List Cv)) (
  Chk (Qt x1.length) (
  some (x1 ++ [(Cv.mk y1.1 y1.2)]))) (fun s=>Jp j1 ys1 s)
def Kr (p_m : List (ByteArray × Cu)) : Option (List Cv) :=
  Fh (fun (x1 : List Cv) =>
  Option.bind (Gp x1) (fun r1 =>
  some r1)) (fun j1 =>
  Zl p_m (fun p=>Jp j1 p ([] : List Cv)))
def Pb (p_t : Hx) (p_l : List An) : Option ((List Cv) × Int) :=
  Option.bind (Lj p_t p_l) (fun r1 =>
  if !decide (r1 = 0) then
  some (([] : List Cv),r1)
  else
  Option.bind (Nw p_t p_l) (fun r2 =>
  Option.bind (Kr r2) (fun r3 =>
  some (r3,0))))
def Mn (p_n : Int) : Bool :=
  (Dd p_n 1 360000)
def Iu (p_l : List Jr) (j1 : Option Int) : List Jr → Nat → Option Int
  | [],_=>j1
  | y1 :: ys1,i1=>Option.bind (Hf y1.Race) (fun r1 =>
  if !r1 then
  some 5
  else
  Fh (fun (c1 : Bool) =>
  if c1 then
  some 7
  else
  if !(Mn y1.Time) then
  some 1
  else
  Iu p_l j1 ys1 (i1 + 1)) (fun j2 =>
  if (decide (0 < (i1 : Int))) then Chk (inB (W ((i1 : Int) - 1)) p_l.length) (
  j2 ((decide (0 < (i1 : Int))) && (CE y1.Race ((nth p_l (W ((i1 : Int) - 1))).Race) || decide (y1.Race = ((nth p_l (W ((i1 : Int) - 1))).Race))))) else j2 ((decide (0 < (i1 : Int))) && true)))
def Lk (p_l : List Jr) : Option Int :=
  if decide (500 < (p_l.length : Int)) then
  some 2
  else
  Fh (some 0) (fun j1 =>
  Iu p_l j1 p_l 0)
def Fq (j1 : Option Int) : List Dn → Nat → Option Int
  | [],_=>j1
  | y1 :: ys1,i1=>Option.bind (Hf y1.Race) (fun r1 =>
  Fh (fun (c1 : Bool) =>
  if c1 then
  some 5
  else
  if !(Dd y1.Time 0 360000) then
  some 1
  else
  Fq j1 ys1 (i1 + 1)) (fun j2 =>
  if (!r1) then j2 ((!r1) || true) else Option.bind (Hf y1.Who) (fun r2 =>
  j2 ((!r1) || (!r2)))))
def Kh (p_r : List Dn) : Option Int :=
  if decide (2000 < (p_r.length : Int)) then
  some 2
  else
  Fh (some 0) (fun j1 =>
  Fq j1 p_r 0)
def Ju (p_race : ByteArray) (j1 : Int) : List Jr → Nat → Int
  | [],_=>j1
  | y1 :: ys1,i1=>if decide (y1.Race = p_race) then
  y1.Time
  else
  Ju p_race j1 ys1 (i1 + 1)
def Fy (p_l : List Jr) (p_race : ByteArray) : Int :=
  Fh (0) (fun j1 =>
  Ju p_race j1 p_l 0)
def Lu (p_x : Int) (p_y : Int) : (Int × Int) :=
  (IntKind.wrap .u64 ((IntKind.wrap .u64 ((IntKind.wrap .u64 ((Dw .u64 p_x 32) * (Dw .u64 p_y 32))) + (Dw .u64 (IntKind.wrap .u64 ((IntKind.wrap .u64 ((Dw .u64 p_x 32) * (Iv .u64 p_y 4294967295))) + (Dw .u64 (IntKind.wrap .u64 ((Iv .u64 p_x 4294967295) * (Iv .u64 p_y 4294967295))) 32))) 32))) + (Dw .u64 (IntKind.wrap .u64 ((Iv .u64 (IntKind.wrap .u64 ((IntKind.wrap .u64 ((Dw .u64 p_x 32) * (Iv .u64 p_y 4294967295))) + (Dw .u64 (IntKind.wrap .u64 ((Iv .u64 p_x 4294967295) * (Iv .u64 p_y 4294967295))) 32))) 4294967295) + (IntKind.wrap .u64 ((Iv .u64 p_x 4294967295) * (Dw .u64 p_y 32))))) 32)),IntKind.wrap .u64 (p_x * p_y))
def Ny (p_x : Int) : Option Int :=
  Option.bind (So p_x) (fun r1 =>
  some (W (64 - r1)))
def Le (p_lo : Int) (r1 : Int) (p_y : Int) (j1 : Int → Option (Int × Int)) : Nat → Int → Int → Option (Int × Int)
  | 0,_,_=>none
  | m1 + 1,x1,x2=>if ((decide (4294967296 ≤ x1)) || (decide ((IntKind.wrap .u64 ((IntKind.wrap .u64 (4294967296 * x2)) + (Dw .u64 (Dp .u64 p_lo (IntKind.wrap .u64 r1)) 32))) < (IntKind.wrap .u64 (x1 * (Iv .u64 (Dp .u64 p_y (IntKind.wrap .u64 r1)) 4294967295)))))) then
  if decide (4294967296 ≤ (IntKind.wrap .u64 (x2 + (Dw .u64 (Dp .u64 p_y (IntKind.wrap .u64 r1)) 32)))) then
  j1 (IntKind.wrap .u64 (x1 - 1))
  else
  Le p_lo r1 p_y j1 m1 (IntKind.wrap .u64 (x1 - 1)) (IntKind.wrap .u64 (x2 + (Dw .u64 (Dp .u64 p_y (IntKind.wrap .u64 r1)) 32)))
  else
  j1 x1
def Lf (p_lo : Int) (r1 : Int) (p_y : Int) (j2 : Int → Option (Int × Int)) : Nat → Int → Int → Option (Int × Int)
  | 0,_,_=>none
  | m2 + 1,x3,x4=>if ((decide (4294967296 ≤ x4)) || (decide ((IntKind.wrap .u64 ((IntKind.wrap .u64 (4294967296 * x3)) + (Iv .u64 (Dp .u64 p_lo (IntKind.wrap .u64 r1)) 4294967295))) < (IntKind.wrap .u64 (x4 * (Iv .u64 (Dp .u64 p_y (IntKind.wrap .u64 r1)) 4294967295)))))) then
  if decide (4294967296 ≤ (IntKind.wrap .u64 (x3 + (Dw .u64 (Dp .u64 p_y (IntKind.wrap .u64 r1)) 32)))) then
  j2 (IntKind.wrap .u64 (x4 - 1))
  else
  Lf p_lo r1 p_y j2 m2 (IntKind.wrap .u64 (x3 + (Dw .u64 (Dp .u64 p_y (IntKind.wrap .u64 r1)) 32))) (IntKind.wrap .u64 (x4 - 1))
  else
  j2 x4
def Qz (p_hi : Int) (p_lo : Int) (p_y : Int) : Option (Int × Int) :=
  if decide (p_y = 0) then
  none
  else
  if decide (p_y ≤ p_hi) then
  none
  else
  if decide (p_hi = 0) then
  Chk (!decide (p_y = 0)) (
  Chk (!decide (p_y = 0)) (
  some (IntKind.wrap .u64 (Int.tdiv p_lo p_y),Int.tmod p_lo p_y)))
  else
  Option.bind (Ny p_y) (fun r1 =>
  Chk (decide (0 ≤ (IntKind.wrap .u64 r1))) (
  Chk (decide (0 ≤ (IntKind.wrap .u64 r1))) (
  Chk (decide (0 ≤ (IntKind.wrap .u64 (64 - (IntKind.wrap .u64 r1))))) (
  Chk (decide (0 ≤ (IntKind.wrap .u64 r1))) (
  Chk (!decide ((Dw .u64 (Dp .u64 p_y (IntKind.wrap .u64 r1)) 32) = 0)) (
  Fh (fun (x1 : Int) =>
  Chk (!decide ((Dw .u64 (Dp .u64 p_y (IntKind.wrap .u64 r1)) 32) = 0)) (
  Fh (fun (x4 : Int) =>
  Chk (decide (0 ≤ (IntKind.wrap .u64 r1))) (
  some (IntKind.wrap .u64 ((IntKind.wrap .u64 (x1 * 4294967296)) + x4),Dw .u64 (IntKind.wrap .u64 ((IntKind.wrap .u64 ((IntKind.wrap .u64 ((IntKind.wrap .u64 ((IntKind.wrap .u64 ((IntKind.wrap .u64 ((Ni .u64 (Dp .u64 p_hi (IntKind.wrap .u64 r1)) (Dw .u64 p_lo (IntKind.wrap .u64 (64 - (IntKind.wrap .u64 r1))))) * 4294967296)) + (Dw .u64 (Dp .u64 p_lo (IntKind.wrap .u64 r1)) 32))) - (IntKind.wrap .u64 (x1 * (Dp .u64 p_y (IntKind.wrap .u64 r1)))))) * 4294967296)) + (Iv .u64 (Dp .u64 p_lo (IntKind.wrap .u64 r1)) 4294967295))) - (IntKind.wrap .u64 (x4 * (Dp .u64 p_y (IntKind.wrap .u64 r1)))))) (IntKind.wrap .u64 r1)))) (fun j2 =>
  Lf p_lo r1 p_y j2 (((IntKind.wrap .u64 (Int.tdiv (IntKind.wrap .u64 ((IntKind.wrap .u64 ((IntKind.wrap .u64 ((Ni .u64 (Dp .u64 p_hi (IntKind.wrap .u64 r1)) (Dw .u64 p_lo (IntKind.wrap .u64 (64 - (IntKind.wrap .u64 r1))))) * 4294967296)) + (Dw .u64 (Dp .u64 p_lo (IntKind.wrap .u64 r1)) 32))) - (IntKind.wrap .u64 (x1 * (Dp .u64 p_y (IntKind.wrap .u64 r1)))))) (Dw .u64 (Dp .u64 p_y (IntKind.wrap .u64 r1)) 32))) - 4294967296).toNat + 2) (IntKind.wrap .u64 ((IntKind.wrap .u64 ((IntKind.wrap .u64 ((IntKind.wrap .u64 ((Ni .u64 (Dp .u64 p_hi (IntKind.wrap .u64 r1)) (Dw .u64 p_lo (IntKind.wrap .u64 (64 - (IntKind.wrap .u64 r1))))) * 4294967296)) + (Dw .u64 (Dp .u64 p_lo (IntKind.wrap .u64 r1)) 32))) - (IntKind.wrap .u64 (x1 * (Dp .u64 p_y (IntKind.wrap .u64 r1)))))) - (IntKind.wrap .u64 ((IntKind.wrap .u64 (Int.tdiv (IntKind.wrap .u64 ((IntKind.wrap .u64 ((IntKind.wrap .u64 ((Ni .u64 (Dp .u64 p_hi (IntKind.wrap .u64 r1)) (Dw .u64 p_lo (IntKind.wrap .u64 (64 - (IntKind.wrap .u64 r1))))) * 4294967296)) + (Dw .u64 (Dp .u64 p_lo (IntKind.wrap .u64 r1)) 32))) - (IntKind.wrap .u64 (x1 * (Dp .u64 p_y (IntKind.wrap .u64 r1)))))) (Dw .u64 (Dp .u64 p_y (IntKind.wrap .u64 r1)) 32))) * (Dw .u64 (Dp .u64 p_y (IntKind.wrap .u64 r1)) 32))))) (IntKind.wrap .u64 (Int.tdiv (IntKind.wrap .u64 ((IntKind.wrap .u64 ((IntKind.wrap .u64 ((Ni .u64 (Dp .u64 p_hi (IntKind.wrap .u64 r1)) (Dw .u64 p_lo (IntKind.wrap .u64 (64 - (IntKind.wrap .u64 r1))))) * 4294967296)) + (Dw .u64 (Dp .u64 p_lo (IntKind.wrap .u64 r1)) 32))) - (IntKind.wrap .u64 (x1 * (Dp .u64 p_y (IntKind.wrap .u64 r1)))))) (Dw .u64 (Dp .u64 p_y (IntKind.wrap .u64 r1)) 32)))))) (fun j1 =>
  Le p_lo r1 p_y j1 (((IntKind.wrap .u64 (Int.tdiv (Ni .u64 (Dp .u64 p_hi (IntKind.wrap .u64 r1)) (Dw .u64 p_lo (IntKind.wrap .u64 (64 - (IntKind.wrap .u64 r1))))) (Dw .u64 (Dp .u64 p_y (IntKind.wrap .u64 r1)) 32))) - 4294967296).toNat + 2) (IntKind.wrap .u64 (Int.tdiv (Ni .u64 (Dp .u64 p_hi (IntKind.wrap .u64 r1)) (Dw .u64 p_lo (IntKind.wrap .u64 (64 - (IntKind.wrap .u64 r1))))) (Dw .u64 (Dp .u64 p_y (IntKind.wrap .u64 r1)) 32))) (IntKind.wrap .u64 ((Ni .u64 (Dp .u64 p_hi (IntKind.wrap .u64 r1)) (Dw .u64 p_lo (IntKind.wrap .u64 (64 - (IntKind.wrap .u64 r1))))) - (IntKind.wrap .u64 ((IntKind.wrap .u64 (Int.tdiv (Ni .u64 (Dp .u64 p_hi (IntKind.wrap .u64 r1)) (Dw .u64 p_lo (IntKind.wrap .u64 (64 - (IntKind.wrap .u64 r1))))) (Dw .u64 (Dp .u64 p_y (IntKind.wrap .u64 r1)) 32))) * (Dw .u64 (Dp .u64 p_y (IntKind.wrap .u64 r1)) 32))))))))))))
def Lg (p_base : Int) (p_time : Int) : Option Int :=
  if decide ((IntKind.wrap .u64 ((IntKind.wrap .u64 ((IntKind.wrap .u64 p_time) * (IntKind.wrap .u64 p_time))) * (IntKind.wrap .u64 p_time))) ≤ ((Lu (IntKind.wrap .u64 ((IntKind.wrap .u64 ((IntKind.wrap .u64 p_base) * (IntKind.wrap .u64 p_base))) * (IntKind.wrap .u64 p_base))) 1000).1)) then
  some 1000000000
  else
  Option.bind (Qz ((Lu (IntKind.wrap .u64 ((IntKind.wrap .u64 ((IntKind.wrap .u64 p_base) * (IntKind.wrap .u64 p_base))) * (IntKind.wrap .u64 p_base))) 1000).1) ((Lu (IntKind.wrap .u64 ((IntKind.wrap .u64 ((IntKind.wrap .u64 p_base) * (IntKind.wrap .u64 p_base))) * (IntKind.wrap .u64 p_base))) 1000).2) (IntKind.wrap .u64 ((IntKind.wrap .u64 ((IntKind.wrap .u64 p_time) * (IntKind.wrap .u64 p_time))) * (IntKind.wrap .u64 p_time)))) (fun r1 =>
  some (W (Vv r1.1 1000000000)))
def Jj (p_a : Int) (p_b : Int) : Int :=
  W (p_b - p_a)
def Df (p_a : Int) (j2 : (List Int) → Option (List Int)) : Nat → (List Int) → Int → Option (List Int)
  | 0,_,_=>none
  | m2 + 1,x3,x4=>Fh (fun (x5 : Bool) =>
  if x5 then
  Chk (inB (W (x4 - 1)) x3.length) (
  Chk (inB x4 x3.length) (
  Chk (inB x4 x3.length) (
  Chk (inB (W (x4 - 1)) (x3.set x4.toNat (nth x3 (W (x4 - 1)))).length) (
  Df p_a j2 m2 ((x3.set x4.toNat (nth x3 (W (x4 - 1)))).set ((W (x4 - 1)).toNat) (nth x3 x4)) (W (x4 - 1))))))
  else
  j2 x3) (fun j3 =>
  if decide (p_a < x4) then
  Chk (inB x4 x3.length) (
  Chk (inB (W (x4 - 1)) x3.length) (
  j3 (decide ((Jj (nth x3 x4) (nth x3 (W (x4 - 1)))) < 0))))
  else
  j3 false)
def Di (p_b : Int) (p_a : Int) (j1 : (List Int) → Option (List Int)) : Nat → (List Int) → Int → Option (List Int)
  | 0,_,_=>none
  | m1 + 1,x1,x2=>if decide (x2 < p_b) then
  Fh (fun (x3 : List Int) =>
  Di p_b p_a j1 m1 x3 (W (x2 + 1))) (fun j2 =>
  Df p_a j2 ((x2 - p_a).toNat + 2) x1 x2)
  else
  j1 x1
def Eu (p_data : List Int) (p_a : Int) (p_b : Int) : Option (List Int) :=
  Fh (fun (x1 : List Int) =>
  some x1) (fun j1 =>
  Di p_b p_a j1 ((p_b - (W (p_a + 1))).toNat + 2) p_data (W (p_a + 1)))
def Dv (p_data : List Int) : Nat → Int → Int → Int → Bool → Option (List Int)
  | 0,_,_,_,_=>none
  | _ + 1,x1,x2,x3,x4=>if decide ((W (x2 - x1)) ≤ 12) then
  Option.bind (Eu p_data x1 x2) (fun r1 =>
  some r1)
  else
  if decide (x3 = 0) then
  none
  else
  if !x4 then
  none
  else
  none
def Gt (p_data : List Int) (p_a : Int) (p_b : Int) (p_limit : Int) : Option (List Int) :=
  Dv p_data 4611686018427387904 p_a p_b p_limit true
def Fu (p_x : List Int) : Option (List Int) :=
  Option.bind (Ry (IntKind.wrap .u64 (p_x.length : Int))) (fun r1 =>
  Option.bind (Gt p_x 0 (p_x.length : Int) r1) (fun r2 =>
  some r2))
def Ig (p_l : List Jr) (j1 : List (Ct × Int) → List (ByteArray × List Int) → Option (List Cv × Int)) : List Dn → Nat → List (Ct × Int) → List (ByteArray × List Int) → Option (List Cv × Int)
  | [],_,x1,x2=>j1 x1 x2
  | y1 :: ys1,i1,x1,x2=>Fh (fun (x3 : List (Ct × Int)) =>
  Ig p_l j1 ys1 (i1 + 1) x3 (Es x2 y1.Who [])) (fun j2 =>
  if ((decide (0 < (Fy p_l y1.Race))) && (decide (0 < y1.Time))) then
  Option.bind (Lg (Fy p_l y1.Race) y1.Time) (fun r1 =>
  j2 (Es x1 (Ct.mk y1.Race y1.Who) (Vt (Ff x1 (Ct.mk y1.Race y1.Who) 0) r1)))
  else
  j2 x1)
def Ih (j3 : List (ByteArray × List Int) → Option (List Cv × Int)) : List (Ct × Int) → List (ByteArray × List Int) → Option (List Cv × Int)
  | [],x=>j3 x
  | y :: ys,x=>Option.bind (α:=List (ByteArray × List Int)) (Chk (Qt (Ff x y.1.who_ []).length) (some (Es x y.1.who_ (Ff x y.1.who_ [] ++ [y.2])))) (fun s=>Ih j3 ys s)
def Hn (j5 : Int → Option (List (ByteArray × Cu))) : List Int → Nat → Int → Option (List (ByteArray × Cu))
  | [],_,x=>j5 x
  | y :: ys,i,x=>Hn j5 ys (i + 1) (W (x + y))
def Ho (p_many : Int) (j4 : List (ByteArray × Cu) → Option (List Cv × Int)) : List (ByteArray × List Int) → List (ByteArray × Cu) → Option (List Cv × Int)
  | [],x=>j4 x
  | y :: ys,x=>Option.bind (α:=List (ByteArray × Cu)) (Option.bind (Fu y.2) (fun r =>
  Chk (Vw 0 (Vv p_many (r.length : Int)) r.length) (
  Fh (fun (s : Int)=>some (Es x y.1 (Cu.mk s 1))) (fun j5 =>
  Hn j5 (cut r 0 (Vv p_many (r.length : Int))) 0 0)))) (fun s=>Ho p_many j4 ys s)
def Mo (p_l : List Jr) (p_r : List Dn) (p_many : Int) : Option (List Cv × Int) :=
  Option.bind (Lk p_l) (fun r1 =>
  if !decide (r1 = 0) then
  some (([] : List Cv),r1)
  else
  Option.bind (Kh p_r) (fun r2 =>
  if !decide (r2 = 0) then
  some (([] : List Cv),r2)
  else
  if !(Dd p_many 1 100) then
  some (([] : List Cv),1)
  else
  Fh (fun (x1 : List (Ct × Int)) (x2 : List (ByteArray × List Int)) =>
  Fh (fun (x3 : List (ByteArray × List Int)) =>
  Fh (fun (x4 : List (ByteArray × Cu)) =>
  Option.bind (Kr x4) (fun r3 =>
  some (r3,0))) (fun j4 =>
  Zl x3 (fun p=>Ho p_many j4 p ([] : List (ByteArray × Cu))))) (fun j3 =>
  Zl x1 (fun p=>Ih j3 p x2))) (fun j1 =>
  Ig p_l j1 p_r 0 ([] : List (Ct × Int)) ([] : List (ByteArray × List Int)))))
def Ib (p_s2 : List Int) (j1 : Option Bool) : List Int → Nat → Option Bool
  | [],_=>j1
  | y1 :: ys1,i1=>Chk (inB (i1 : Int) p_s2.length) (
  if !decide (y1 = (nth p_s2 (i1 : Int))) then
  some false
  else
  Ib p_s2 j1 ys1 (i1 + 1))
def Na (p_s1 : List Int) (p_s2 : List Int) : Option Bool :=
  if !decide ((p_s1.length : Int) = (p_s2.length : Int)) then
  some false
  else
  Fh (some true) (fun j1 =>
  Ib p_s2 j1 p_s1 0)
def Gu (p_s2 : List An) (j1 : Option Bool) : List An → Nat → Option Bool
  | [],_=>j1
  | y1 :: ys1,i1=>Chk (inB (i1 : Int) p_s2.length) (
  if !decide (y1 = (nth p_s2 (i1 : Int))) then
  some false
  else
  Gu p_s2 j1 ys1 (i1 + 1))
def Ky (p_s1 : List An) (p_s2 : List An) : Option Bool :=
  if !decide ((p_s1.length : Int) = (p_s2.length : Int)) then
  some false
  else
  Fh (some true) (fun j1 =>
  Gu p_s2 j1 p_s1 0)
def Gv (p_s2 : List Dn) (j1 : Option Bool) : List Dn → Nat → Option Bool
  | [],_=>j1
  | y1 :: ys1,i1=>Chk (inB (i1 : Int) p_s2.length) (
  if !decide (y1 = (nth p_s2 (i1 : Int))) then
  some false
  else
  Gv p_s2 j1 ys1 (i1 + 1))
def Kz (p_s1 : List Dn) (p_s2 : List Dn) : Option Bool :=
  if !decide ((p_s1.length : Int) = (p_s2.length : Int)) then
  some false
  else
  Fh (some true) (fun j1 =>
  Gv p_s2 j1 p_s1 0)
def Qn (p_year : Int) : Bool :=
  ((decide ((Int.tmod p_year 4) = 0)) && ((!decide ((Int.tmod p_year 100) = 0)) || (decide ((Int.tmod p_year 400) = 0))))
def Jq (p_year : Int) (p_month : Int) : Int :=
  if decide (p_month = 2) then
  if (Qn p_year) then
  29
  else
  28
  else
  Fh (fun (x1 : Bool) =>
  if x1 then
  30
  else
  31) (fun j1 =>
  if decide (p_month = 4) then
  j1 (decide (p_month = 4))
  else
  Fh (fun (x2 : Bool) =>
  j1 x2) (fun j2 =>
  if decide (p_month = 6) then
  j2 (decide (p_month = 6))
  else
  Fh (fun (x3 : Bool) =>
  j2 x3) (fun j3 =>
  if decide (p_month = 9) then
  j3 (decide (p_month = 9))
  else
  j3 (decide (p_month = 11)))))
def Ll (p_year : Int) : Int :=
  if (Qn p_year) then
  366
  else
  365
def Rr (p_n : Int) : Bool :=
  (Dd p_n (-40000) 4000)
def Jv (p_d : Iz) (j2 : Int → Option (Int × Int)) : Nat → Int → Int → Option (Int × Int)
  | 0,_,_=>none
  | m1 + 1,x2,x3=>if decide (x3 < p_d.Month) then
  Jv p_d j2 m1 (W (x2 + (Jq p_d.Year x3))) (W (x3 + 1))
  else
  j2 x2
def Jw (p_d : Iz) (j3 : Int → Option (Int × Int)) : Nat → Int → Int → Option (Int × Int)
  | 0,_,_=>none
  | m2 + 1,x4,x5=>if decide (x5 < p_d.Year) then
  Jw p_d j3 m2 (W (x4 + (Ll x5))) (W (x5 + 1))
  else
  j3 x4
def Jx (j4 : Int → Option (Int × Int)) : Nat → Int → Int → Option (Int × Int)
  | 0,_,_=>none
  | m3 + 1,x6,x7=>if decide (x7 < 2024) then
  Jx j4 m3 (W (x6 - (Ll x7))) (W (x7 + 1))
  else
  j4 x6
def Rs (p_d : Iz) : Option (Int × Int) :=
  Fh (fun (x1 : Bool) =>
  if x1 then
  some (0,1)
  else
  Fh (fun (x2 : Int) =>
  Fh (fun (x4 : Int) =>
  Fh (fun (x6 : Int) =>
  if !(Rr x6) then
  some (0,1)
  else
  some (x6,0)) (fun j4 =>
  Jx j4 ((2024 - p_d.Year).toNat + 2) x4 p_d.Year)) (fun j3 =>
  Jw p_d j3 ((p_d.Year - 2024).toNat + 2) x2 2024)) (fun j2 =>
  Jv p_d j2 ((p_d.Month - 1).toNat + 2) (W (p_d.Day - 1)) 1)) (fun j1 =>
  if !(Dd p_d.Year 1900 2100) then
  if true then
  j1 true
  else
  j1 (!(Dd p_d.Day 1 (Jq p_d.Year p_d.Month)))
  else
  if !(Dd p_d.Month 1 12) then
  j1 true
  else
  j1 (!(Dd p_d.Day 1 (Jq p_d.Year p_d.Month))))
def Hy (j1 : (List (ByteArray × Bool)) → Option Int) : List Js → Nat → (List (ByteArray × Bool)) → Option Int
  | [],_,x1=>j1 x1
  | y1 :: ys1,i1,x1=>Option.bind (Hf y1.Key) (fun r1 =>
  if !r1 then
  some 5
  else
  if Ff x1 y1.Key false then
  some 6
  else
  if ((((!(Dd y1.Heats 1 60)) || (!(Dd y1.Long 1 3600000))) || (!(Dd y1.Gap 0 3600000))) || (!(Dd y1.Break 0 3600000))) then
  some 1
  else
  Hy j1 ys1 (i1 + 1) (Es x1 y1.Key true))
def Oo (p_l : List Js) : Option Int :=
  if decide (100 < (p_l.length : Int)) then
  some 2
  else
  Fh (fun (x1 : List (ByteArray × Bool)) =>
  some 0) (fun j1 =>
  Hy j1 p_l 0 ([] : List (ByteArray × Bool)))
def Pc (p_n : Int) : Bool :=
  ((decide (0 ≤ p_n)) && (decide (p_n < 345686400000)))
def Ij (y1 : Js) (j2 : (List Hr) → Int → Option (List Hr)) : Nat → (List Hr) → Int → Int → Option (List Hr)
  | 0,_,_,_=>none
  | m1 + 1,x3,x4,x5=>if decide (x5 ≤ y1.Heats) then
  Fh (fun (x6 : List Hr) (x7 : Int) =>
  Ij y1 j2 m1 x6 x7 (W (x5 + 1))) (fun j3 =>
  Chk (Qt x3.length) (
  Fh (fun (x8 : Int) =>
  j3 (x3 ++ [(Hr.mk y1.Key x5 (Nu.mk x4 (W (x4 + y1.Long))))]) x8) (fun j4 =>
  if decide (x5 < y1.Heats) then
  j4 (W ((W (x4 + y1.Long)) + y1.Gap))
  else
  j4 (W (x4 + y1.Long)))))
  else
  j2 x3 x4
def Ik (j1 : (List Hr) → Option (List Hr)) : List Js → Nat → (List Hr) → Int → Option (List Hr)
  | [],_,x1,_=>j1 x1
  | y1 :: ys1,i1,x1,x2=>Fh (fun (x3 : List Hr) (x4 : Int) =>
  Ik j1 ys1 (i1 + 1) x3 (W (x4 + y1.Break))) (fun j2 =>
  Ij y1 j2 ((y1.Heats - 1).toNat + 2) x1 x2 1)
def Pd (p_l : List Js) (p_from : Int) : Option (List Hr) :=
  Fh (fun (x1 : List Hr) =>
  some x1) (fun j1 =>
  Ik j1 p_l 0 ([] : List Hr) p_from)
def Rg (p_l : List Hr) (p_from : Int) : Option Int :=
  if decide ((p_l.length : Int) = 0) then
  some p_from
  else
  Chk (inB (W ((p_l.length : Int) - 1)) p_l.length) (
  some (((nth p_l (W ((p_l.length : Int) - 1))).Time).To))
def Rt (p_l : List Js) (p_from : Int) : Option ((List Hr) × Int) :=
  if !(Pc p_from) then
  some (([] : List Hr),1)
  else
  Option.bind (Pd p_l p_from) (fun r1 =>
  Option.bind (Rg r1 p_from) (fun r2 =>
  if decide (345686400000 < r2) then
  some (([] : List Hr),1)
  else
  some (r1,0)))
def Pe (p_l : List Js) (p_from : Int) : Option ((List Hr) × Int) :=
  Option.bind (Oo p_l) (fun r1 =>
  if !decide (r1 = 0) then
  some (([] : List Hr),r1)
  else
  Option.bind (Rt p_l p_from) (fun r2 =>
  some (r2.1,r2.2)))
def Sq (p_l : List Js) (p_from : Int) : Option (Int × Int) :=
  Option.bind (Pe p_l p_from) (fun r1 =>
  if !decide (r1.2 = 0) then
  some (0,r1.2)
  else
  Option.bind (Rg r1.1 p_from) (fun r2 =>
  some (r2,0)))
def Ru (p_l : List Jr) (p_race : ByteArray) (p_time : Int) : Option (Int × Int) :=
  Option.bind (Lk p_l) (fun r1 =>
  if !decide (r1 = 0) then
  some (0,r1)
  else
  if decide ((Fy p_l p_race) = 0) then
  some (0,8)
  else
  if !(Mn p_time) then
  some (0,1)
  else
  Option.bind (Lg (Fy p_l p_race) p_time) (fun r2 =>
  some (r2,0)))
def Il (y1 : Od) (j4 : Option Int) : List ByteArray → Nat → Option Int
  | [],_=>j4
  | y2 :: ys2,i2=>Option.bind (Hf y2) (fun r5 =>
  if !r5 then
  some 5
  else
  Fh (fun (c3 : Bool) =>
  if c3 then
  some 7
  else
  Il y1 j4 ys2 (i2 + 1)) (fun j5 =>
  if (decide (0 < (i2 : Int))) then Chk (inB (W ((i2 : Int) - 1)) y1.Clubs.length) (
  j5 ((decide (0 < (i2 : Int))) && (CE y2 (nth y1.Clubs (W ((i2 : Int) - 1))) || decide (y2 = (nth y1.Clubs (W ((i2 : Int) - 1))))))) else j5 ((decide (0 < (i2 : Int))) && true)))
def Im (p_l : List Od) (j1 : Option Int) : List Od → Nat → Option Int
  | [],_=>j1
  | y1 :: ys1,i1=>Option.bind (Hf y1.Key) (fun r2 =>
  Fh (fun (c1 : Bool) =>
  if c1 then
  some 5
  else
  Fh (fun (c2 : Bool) =>
  if c2 then
  some 7
  else
  if decide (100 < (y1.Clubs.length : Int)) then
  some 2
  else
  Fh (if (((decide (y1.Young < 0)) || (decide (y1.Old < y1.Young))) || (decide (150 < y1.Old))) then
  some 1
  else
  Im p_l j1 ys1 (i1 + 1)) (fun j4 =>
  Il y1 j4 y1.Clubs 0)) (fun j3 =>
  if (decide (0 < (i1 : Int))) then Chk (inB (W ((i1 : Int) - 1)) p_l.length) (
  j3 ((decide (0 < (i1 : Int))) && (CE y1.Key ((nth p_l (W ((i1 : Int) - 1))).Key) || decide (y1.Key = ((nth p_l (W ((i1 : Int) - 1))).Key))))) else j3 ((decide (0 < (i1 : Int))) && true))) (fun j2 =>
  if (!r2) then j2 ((!r2) || true) else Option.bind (Hf y1.Race) (fun r3 =>
  j2 ((!r2) || (!r3)))))
def Pf (p_l : List Od) : Option Int :=
  if decide (50 < (p_l.length : Int)) then
  some 2
  else
  Fh (some 0) (fun j1 =>
  Im p_l j1 p_l 0)
def Pn (p_x : Hi) : Option Int :=
  Fh (some 0) (fun j1 =>
  if !(Pc p_x.At) then
  some 1
  else
  if !(Dd p_x.Kind 1 3) then
  some 4
  else
  Option.bind (Hf p_x.Id) (fun r1 =>
  if !r1 then
  some 5
  else
  Fh (j1) (fun j2 =>
  if !decide (p_x.Kind = 1) then
  if !decide (p_x = (Hi.mk p_x.At p_x.Kind p_x.Id Cy Cy Cy 0 0)) then
  some 3
  else
  j2
  else
  Option.bind (Hf p_x.Who) (fun r2 =>
  Fh (fun (c1 : Bool) =>
  Fh (fun (c2 : Bool) =>
  if c2 then
  some 5
  else
  if ((!(Dd p_x.Age 0 150)) || (!(Mn p_x.Time))) then
  some 1
  else
  j2) (fun j4 =>
  if c1 then j4 (c1 || true) else Fh (fun (c3 : Bool) =>
  j4 (c1 || c3)) (fun j5 =>
  if (!decide (p_x.Club = Cy)) then Option.bind (Hf p_x.Club) (fun r4 =>
  j5 ((!decide (p_x.Club = Cy)) && (!r4))) else j5 ((!decide (p_x.Club = Cy)) && true)))) (fun j3 =>
  if (!r2) then j3 ((!r2) || true) else Option.bind (Hf p_x.Race) (fun r3 =>
  j3 ((!r2) || (!r3))))))))
def Po (p_s : Hi) : Option Int :=
  Option.bind (Pn p_s) (fun r1 =>
  if !decide (r1 = 0) then
  some r1
  else
  if !decide (p_s.Kind = 1) then
  some 4
  else
  some 0)
def Hs (p_v : ByteArray) (j1 : Int) : List ByteArray → Nat → Int
  | [],_=>j1
  | y1 :: ys1,i1=>if decide (p_v = y1) then
  (i1 : Int)
  else
  Hs p_v j1 ys1 (i1 + 1)
def Nz (p_s : List ByteArray) (p_v : ByteArray) : Int :=
  Fh ((-1)) (fun j1 =>
  Hs p_v j1 p_s 0)
def Gw (p_s : List ByteArray) (p_v : ByteArray) : Bool :=
  decide (0 ≤ (Nz p_s p_v))
def Sr (p_k : Od) (p_s : Hi) : Bool :=
  (((decide (p_s.Race = p_k.Race)) && ((decide ((p_k.Clubs.length : Int) = 0)) || (Gw p_k.Clubs p_s.Club))) && (Dd p_s.Age p_k.Young p_k.Old))
def Lh (p_s : Hi) (j1 : (List ByteArray) → Option ((List ByteArray) × Int)) : List Od → Nat → (List ByteArray) → Option ((List ByteArray) × Int)
  | [],_,x1=>j1 x1
  | y1 :: ys1,i1,x1=>Fh (fun (x2 : List ByteArray) =>
  Lh p_s j1 ys1 (i1 + 1) x2) (fun j2 =>
  Fh (fun (x3 : List ByteArray) =>
  j2 x3) (fun j3 =>
  if (Sr y1 p_s) then
  Chk (Qt x1.length) (
  j3 (x1 ++ [y1.Key]))
  else
  j3 x1))
def Vj (p_l : List Od) (p_s : Hi) : Option ((List ByteArray) × Int) :=
  Option.bind (Pf p_l) (fun r1 =>
  if !decide (r1 = 0) then
  some (([] : List ByteArray),r1)
  else
  Option.bind (Po p_s) (fun r2 =>
  if !decide (r2 = 0) then
  some (([] : List ByteArray),r2)
  else
  Fh (fun (x1 : List ByteArray) =>
  some (x1,0)) (fun j1 =>
  Lh p_s j1 p_l 0 ([] : List ByteArray))))
def Jl (j1 : Int) : List Int → Nat → Int
  | [],_=>j1
  | y1 :: ys1,i1=>if !decide (y1 = 0) then
  y1
  else
  Jl j1 ys1 (i1 + 1)
def Je (p_l : List Int) : Int :=
  Fh (0) (fun j1 =>
  Jl j1 p_l 0)
def Ok : Option Bool :=
  Option.bind (Rs (Iz.mk 2024 3 1)) (fun r1 =>
  Option.bind (Sq [(Js.mk k_a 2 10 5 0)] 0) (fun r2 =>
  Option.bind (Ru [(Jr.mk k_r 3000)] k_r 6000) (fun r3 =>
  Option.bind (Vj ([(Od.mk k_k k_r ([] : List ByteArray) 0 9)] : List Od) (Hi.mk 0 1 k_i k_a Cy k_r 0 5)) (fun r4 =>
  some (((((decide ((Je [r1.2,r2.2,r3.2,r4.2]) = 0)) && (decide (r1.1 = 60))) && (decide (r2.1 = 25))) && (decide (r3.1 = 125))) && (decide ((r4.1.length : Int) = 1)))))))
def Ml (p_l : List Int) : Option Bool :=
  Option.bind (Kw p_l 0) (fun r1 =>
  Option.bind (Km p_l r1.2) (fun r2 =>
  Option.bind (Nv p_l r2.2) (fun r3 =>
  Option.bind (Kw p_l 0) (fun r4 =>
  Option.bind (Km p_l r4.2) (fun r5 =>
  Option.bind (Nv p_l r5.2) (fun r6 =>
  Option.bind (Pa r1.1 r2.1) (fun r7 =>
  Option.bind (Iw r7.1) (fun r8 =>
  Option.bind (Pb r1.1 r2.1) (fun r9 =>
  Option.bind (Iw r9.1) (fun r10 =>
  Option.bind (Mo [(Jr.mk Ke 3000)] r3.1 2) (fun r11 =>
  Option.bind (Iw r11.1) (fun r12 =>
  Option.bind (Na r1.1.Points r4.1.Points) (fun r13 =>
  Fh (fun (c1 : Bool) =>
  Fh (fun (c2 : Bool) =>
  Fh (fun (c3 : Bool) =>
  some c3) (fun j3 =>
  if c2 then Option.bind (Ok) (fun r16 =>
  j3 (c2 && r16)) else j3 (c2 && true))) (fun j2 =>
  if c1 then Option.bind (Kz r3.1 r6.1) (fun r15 =>
  j2 (c1 && r15)) else j2 (c1 && true))) (fun j1 =>
  if r13 then Option.bind (Ky r2.1 r5.1) (fun r14 =>
  j1 (r13 && r14)) else j1 (r13 && true)))))))))))))))
theorem twin_eqs : True:=by
  have h:=@Gy.eq_def; clear h; have h:=@Gy.eq_1; clear h; have h:=@Gy.eq_2; clear h
  have h:=@Da.eq_def; clear h; have h:=@Da.eq_1; clear h; have h:=@Da.eq_2; clear h
  have h:=@Dg.eq_def; clear h; have h:=@Dg.eq_1; clear h; have h:=@Dg.eq_2; clear h
  have h:=@Dq.eq_def; clear h; have h:=@Dq.eq_1; clear h; have h:=@Dq.eq_2; clear h
  have h:=@Gh.eq_def; clear h; have h:=@Gh.eq_1; clear h; have h:=@Gh.eq_2; clear h
  have h:=@Fz.eq_def; clear h; have h:=@Fz.eq_1; clear h; have h:=@Fz.eq_2; clear h
  have h:=@Fm.eq_def; clear h; have h:=@Fm.eq_1; clear h; have h:=@Fm.eq_2; clear h
  have h:=@Ez.eq_def; clear h; have h:=@Ez.eq_1; clear h; have h:=@Ez.eq_2; clear h
  have h:=@Ep.eq_def; clear h; have h:=@Ep.eq_1; clear h; have h:=@Ep.eq_2; clear h
  have h:=@Ip.eq_def; clear h; have h:=@Ip.eq_1; clear h; have h:=@Ip.eq_2; clear h
  have h:=@Gz.eq_def; clear h; have h:=@Gz.eq_1; clear h; have h:=@Gz.eq_2; clear h
  have h:=@Jf.eq_def; clear h; have h:=@Jf.eq_1; clear h; have h:=@Jf.eq_2; clear h
  have h:=@Jg.eq_def; clear h; have h:=@Jg.eq_1; clear h; have h:=@Jg.eq_2; clear h
  have h:=@Ic.eq_def; clear h; have h:=@Ic.eq_1; clear h; have h:=@Ic.eq_2; clear h
  have h:=@Dm.eq_def; clear h; have h:=@Dm.eq_1; clear h; have h:=@Dm.eq_2; clear h
  have h:=@Hu.eq_def; clear h; have h:=@Hu.eq_1; clear h; have h:=@Hu.eq_2; clear h
  have h:=@Hb.eq_def; clear h; have h:=@Hb.eq_1; clear h; have h:=@Hb.eq_2; clear h
  have h:=@Hv.eq_def; clear h; have h:=@Hv.eq_1; clear h; have h:=@Hv.eq_2; clear h
  have h:=@Gj.eq_def; clear h; have h:=@Gj.eq_1; clear h; have h:=@Gj.eq_2; clear h
  have h:=@Io.eq_def; clear h; have h:=@Io.eq_1; clear h; have h:=@Io.eq_2; clear h
  have h:=@Hc.eq_def; clear h; have h:=@Hc.eq_1; clear h; have h:=@Hc.eq_2; clear h
  have h:=@Gi.eq_def; clear h; have h:=@Gi.eq_1; clear h; have h:=@Gi.eq_2; clear h
  have h:=@Ii.eq_def; clear h; have h:=@Ii.eq_1; clear h; have h:=@Ii.eq_2; clear h
  have h:=@Jc.eq_def; clear h; have h:=@Jc.eq_1; clear h; have h:=@Jc.eq_2; clear h
  have h:=@Jd.eq_def; clear h; have h:=@Jd.eq_1; clear h; have h:=@Jd.eq_2; clear h
  have h:=@Ie.eq_def; clear h; have h:=@Ie.eq_1; clear h; have h:=@Ie.eq_2; clear h
  have h:=@Hd.eq_def; clear h; have h:=@Hd.eq_1; clear h; have h:=@Hd.eq_2; clear h
  have h:=@Jo.eq_def; clear h; have h:=@Jo.eq_1; clear h; have h:=@Jo.eq_2; clear h
  have h:=@Iq.eq_def; clear h; have h:=@Iq.eq_1; clear h; have h:=@Iq.eq_2; clear h
  have h:=@Fb.eq_def; clear h; have h:=@Fb.eq_1; clear h; have h:=@Fb.eq_2; clear h
  have h:=@Ir.eq_def; clear h; have h:=@Ir.eq_1; clear h; have h:=@Ir.eq_2; clear h
  have h:=@Hm.eq_def; clear h; have h:=@Hm.eq_1; clear h; have h:=@Hm.eq_2; clear h
  have h:=@De.eq_def; clear h; have h:=@De.eq_1; clear h; have h:=@De.eq_2; clear h
  have h:=@Dh.eq_def; clear h; have h:=@Dh.eq_1; clear h; have h:=@Dh.eq_2; clear h
  have h:=@Du.eq_def; clear h; have h:=@Du.eq_1; clear h; have h:=@Du.eq_2; clear h
  have h:=@Jp.eq_def; clear h; have h:=@Jp.eq_1; clear h; have h:=@Jp.eq_2; clear h
  have h:=@Iu.eq_def; clear h; have h:=@Iu.eq_1; clear h; have h:=@Iu.eq_2; clear h
  have h:=@Fq.eq_def; clear h; have h:=@Fq.eq_1; clear h; have h:=@Fq.eq_2; clear h
  have h:=@Ju.eq_def; clear h; have h:=@Ju.eq_1; clear h; have h:=@Ju.eq_2; clear h
  have h:=@Le.eq_def; clear h; have h:=@Le.eq_1; clear h; have h:=@Le.eq_2; clear h
  have h:=@Lf.eq_def; clear h; have h:=@Lf.eq_1; clear h; have h:=@Lf.eq_2; clear h
  have h:=@Df.eq_def; clear h; have h:=@Df.eq_1; clear h; have h:=@Df.eq_2; clear h
  have h:=@Di.eq_def; clear h; have h:=@Di.eq_1; clear h; have h:=@Di.eq_2; clear h
  have h:=@Dv.eq_def; clear h; have h:=@Dv.eq_1; clear h; have h:=@Dv.eq_2; clear h
  have h:=@Ig.eq_def; clear h; have h:=@Ig.eq_1; clear h; have h:=@Ig.eq_2; clear h
  have h:=@Ih.eq_def; clear h; have h:=@Ih.eq_1; clear h; have h:=@Ih.eq_2; clear h
  have h:=@Hn.eq_def; clear h; have h:=@Hn.eq_1; clear h; have h:=@Hn.eq_2; clear h
  have h:=@Ho.eq_def; clear h; have h:=@Ho.eq_1; clear h; have h:=@Ho.eq_2; clear h
  have h:=@Ib.eq_def; clear h; have h:=@Ib.eq_1; clear h; have h:=@Ib.eq_2; clear h
  have h:=@Gu.eq_def; clear h; have h:=@Gu.eq_1; clear h; have h:=@Gu.eq_2; clear h
  have h:=@Gv.eq_def; clear h; have h:=@Gv.eq_1; clear h; have h:=@Gv.eq_2; clear h
  have h:=@Jv.eq_def; clear h; have h:=@Jv.eq_1; clear h; have h:=@Jv.eq_2; clear h
  have h:=@Jw.eq_def; clear h; have h:=@Jw.eq_1; clear h; have h:=@Jw.eq_2; clear h
  have h:=@Jx.eq_def; clear h; have h:=@Jx.eq_1; clear h; have h:=@Jx.eq_2; clear h
  have h:=@Hy.eq_def; clear h; have h:=@Hy.eq_1; clear h; have h:=@Hy.eq_2; clear h
  have h:=@Ij.eq_def; clear h; have h:=@Ij.eq_1; clear h; have h:=@Ij.eq_2; clear h
  have h:=@Ik.eq_def; clear h; have h:=@Ik.eq_1; clear h; have h:=@Ik.eq_2; clear h
  have h:=@Il.eq_def; clear h; have h:=@Il.eq_1; clear h; have h:=@Il.eq_2; clear h
  have h:=@Im.eq_def; clear h; have h:=@Im.eq_1; clear h; have h:=@Im.eq_2; clear h
  have h:=@Hs.eq_def; clear h; have h:=@Hs.eq_1; clear h; have h:=@Hs.eq_2; clear h
  have h:=@Lh.eq_def; clear h; have h:=@Lh.eq_1; clear h; have h:=@Lh.eq_2; clear h
  have h:=@Jl.eq_def; clear h; have h:=@Jl.eq_1; clear h; have h:=@Jl.eq_2; clear h
  trivial
end
end Go.Proofs.YtfdcgchgkojfiaaGreatDoor
