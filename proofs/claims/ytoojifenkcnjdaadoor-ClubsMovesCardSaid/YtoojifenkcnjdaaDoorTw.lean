/- The Go functions as plain Lean functions, by program. -/
import Derived.Test.YtoojifenkcnjdaaDoorBase
namespace Go.Proofs.YtoojifenkcnjdaaDoor
open Go
structure GMove where
  Who : ByteArray
  Club : ByteArray
  Day : Int
  deriving DecidableEq, Inhabited
structure GRace where
  Key : ByteArray
  Metres : Int
  Stroke : Int
  Course : Int
  Legs : Int
  Sex : Int
  Young : Int
  Old : Int
  deriving DecidableEq, Inhabited
structure GSwimmer where
  Key : ByteArray
  Sex : Int
  Born : Int
  deriving DecidableEq, Inhabited
structure GDate where
  Year : Int
  Month : Int
  Day : Int
  deriving DecidableEq, Inhabited
def k_empty : ByteArray := ⟨#[]⟩
def k_ann : ByteArray := ⟨#[97, 110, 110]⟩
def k_bea : ByteArray := ⟨#[98, 101, 97]⟩
def k_cid : ByteArray := ⟨#[99, 105, 100]⟩
def k_dan : ByteArray := ⟨#[100, 97, 110]⟩
def k_eve : ByteArray := ⟨#[101, 118, 101]⟩
def k_blue : ByteArray := ⟨#[98, 108, 117, 101]⟩
def k_red : ByteArray := ⟨#[114, 101, 100]⟩
def k_A : ByteArray := ⟨#[65]⟩
def k_zed : ByteArray := ⟨#[122, 101, 100]⟩
def k_abcdefghijkl_h0e2e2c : ByteArray := ⟨#[97, 98, 99, 100, 101, 102, 103, 104, 105, 106, 107, 108, 109, 110, 111, 112, 113, 114, 115, 116, 117, 118, 119, 120, 121, 122, 48, 49, 50, 51, 52, 53, 54, 55, 56, 57, 45, 95]⟩
def k_abcdefghijklmnopqrstuvwxyz : ByteArray := ⟨#[97, 98, 99, 100, 101, 102, 103, 104, 105, 106, 107, 108, 109, 110, 111, 112, 113, 114, 115, 116, 117, 118, 119, 120, 121, 122]⟩
def k_ra : ByteArray := ⟨#[114, 97]⟩
def tumbmake_Below (p_x : Int) (p_n : Int) : Option Int :=
  if decide (p_n < 1) then
  some 0
  else
  Chk (!decide (p_n = 0)) (
  Join (fun (x1 : Int) =>
  some x1) (fun j1 =>
  if decide ((Int.tmod p_x p_n) < 0) then
  j1 (W ((Int.tmod p_x p_n) + p_n))
  else
  j1 (Int.tmod p_x p_n)))
def Stream_Next (p_s_L : List Int) (p_s_at : Int) (p_n : Int) : Option (Int × Int) :=
  if decide ((p_s_L.length : Int) = 0) then
  Option.bind (tumbmake_Below (W ((W (p_s_at + 1)) * 7919)) p_n) (fun r1 =>
  some (r1, W (p_s_at + 1)))
  else
  Chk (!decide ((p_s_L.length : Int) = 0)) (
  Chk (!decide ((p_s_L.length : Int) = 0)) (
  Chk (inB (Int.tmod (W ((W (p_s_at + 1)) - 1)) (p_s_L.length : Int)) p_s_L.length) (
  Option.bind (tumbmake_Below (nth p_s_L (Int.tmod (W ((W (p_s_at + 1)) - 1)) (p_s_L.length : Int))) 1073741824) (fun r2 =>
  Option.bind (tumbmake_Below (W (r2 + (W ((W (Int.tdiv (W ((W (p_s_at + 1)) - 1)) (p_s_L.length : Int))) * (W (7919 + (Int.tmod (W ((W (p_s_at + 1)) - 1)) (p_s_L.length : Int)))))))) p_n) (fun r3 =>
  some (r3, W (p_s_at + 1)))))))
def Stream_Pick (p_s_L : List Int) (p_s_at : Int) (p_l : List Int) : Option (Int × Int) :=
  Option.bind (Stream_Next p_s_L p_s_at (p_l.length : Int)) (fun r1 =>
  Chk (inB r1.1 p_l.length) (
  some ((nth p_l r1.1), r1.2)))
def Stream_Range (p_s_L : List Int) (p_s_at : Int) (p_low : Int) (p_high : Int) : Option (Int × Int) :=
  if decide (p_high < p_low) then
  some (p_low, p_s_at)
  else
  Option.bind (Stream_Next p_s_L p_s_at (W ((W (p_high - p_low)) + 1))) (fun r1 =>
  some (W (p_low + r1.1), r1.2))
def Stream_Some (p_s_L : List Int) (p_s_at : Int) (p_l : List ByteArray) : Option (ByteArray × Int) :=
  Option.bind (Stream_Next p_s_L p_s_at (p_l.length : Int)) (fun r1 =>
  Chk (inB r1.1 p_l.length) (
  some ((nth p_l r1.1), r1.2)))
def Stream_RightMoves_l2 (r2 : Int × Int) (p_s_L : List Int) (y1 : ByteArray) (j2 : (List GMove) → Int → Option ((List GMove) × Int)) : Nat → (List GMove) → Int → Int → ByteArray → Int → Option ((List GMove) × Int)
  | 0, _, _, _, _, _ => none
  | m1 + 1, x3, x4, x5, x6, x7 => if decide (x7 < r2.1) then
  Join (fun (x8 : List GMove) (x9 : Int) (x10 : Int) (x11 : ByteArray) =>
  Stream_RightMoves_l2 r2 p_s_L y1 j2 m1 x8 x9 x10 x11 (W (x7 + 1))) (fun j3 =>
  Option.bind (Stream_Some p_s_L x4 [k_blue, k_blue, k_red, k_empty]) (fun r3 =>
  if decide (r3.1 = x6) then
  j3 x3 r3.2 x5 x6
  else
  Chk (room x3.length) (
  Option.bind (Stream_Pick p_s_L r3.2 [1, 30, 365]) (fun r4 =>
  j3 (x3 ++ [(GMove.mk y1 r3.1 x5)]) r4.2 (W (x5 + r4.1)) r3.1))))
  else
  j2 x3 x4
def Stream_RightMoves_l1 (p_s_L : List Int) (j1 : (List GMove) → Int → Option ((List GMove) × Int)) : List ByteArray → Nat → (List GMove) → Int → Option ((List GMove) × Int)
  | [], i1, x1, x2 => j1 x1 x2
  | y1 :: ys1, i1, x1, x2 => Option.bind (Stream_Pick p_s_L x2 [(-100), 0, 50]) (fun r1 =>
  Option.bind (Stream_Range p_s_L r1.2 0 3) (fun r2 =>
  Join (fun (x3 : List GMove) (x4 : Int) =>
  Stream_RightMoves_l1 p_s_L j1 ys1 (i1 + 1) x3 x4) (fun j2 =>
  Stream_RightMoves_l2 r2 p_s_L y1 j2 ((r2.1 - 0).toNat + 2) x1 r2.2 r1.1 k_empty 0)))
def Stream_RightMoves (p_s_L : List Int) (p_s_at : Int) : Option ((List GMove) × Int) :=
  Join (fun (x1 : List GMove) (x2 : Int) =>
  some (x1, x2)) (fun j1 =>
  Stream_RightMoves_l1 p_s_L j1 ([k_ann, k_bea, k_cid, k_dan, k_eve] : List ByteArray) 0 ([] : List GMove) p_s_at)
def Stream_Flip (p_s_L : List Int) (p_s_at : Int) (p_n : Int) : Option (Bool × Int) :=
  Option.bind (Stream_Next p_s_L p_s_at p_n) (fun r1 =>
  some (decide (r1.1 = 0), r1.2))
def Stream_Odd (p_s_L : List Int) (p_s_at : Int) (p_low : Int) (p_high : Int) : Option (Int × Int) :=
  Option.bind (Stream_Flip p_s_L p_s_at 12) (fun r1 =>
  if r1.1 then
  Option.bind (Stream_Pick p_s_L r1.2 [W (p_low - 1), W (p_high + 1), p_low, p_high, (-1099511627776), 1099511627776]) (fun r2 =>
  some (r2.1, r2.2))
  else
  Option.bind (Stream_Range p_s_L r1.2 p_low p_high) (fun r3 =>
  some (r3.1, r3.2)))
def Stream_Moves (p_s_L : List Int) (p_s_at : Int) : Option ((List GMove) × Int) :=
  Option.bind (Stream_RightMoves p_s_L p_s_at) (fun r1 =>
  Join (fun (x1 : Int) (x2 : Bool) =>
  Join (fun (x3 : List GMove) (x4 : Int) =>
  some (x3, x4)) (fun j2 =>
  if x2 then
  Option.bind (Stream_Next p_s_L x1 (r1.1.length : Int)) (fun r3 =>
  Chk (inB r3.1 r1.1.length) (
  Join (fun (x5 : List GMove) (x6 : Int) =>
  j2 x5 x6) (fun j3 =>
  Option.bind (Stream_Some p_s_L r3.2 [(nth r1.1 r3.1).Who, k_empty, k_ann]) (fun r4 =>
  Option.bind (Stream_Some p_s_L r4.2 [(nth r1.1 r3.1).Club, k_A, k_blue, k_empty]) (fun r5 =>
  Option.bind (Stream_Odd p_s_L r5.2 (-100) 400) (fun r6 =>
  j3 (((r1.1.set r3.1.toNat (GMove.mk r4.1 ((nth r1.1 r3.1).Club) ((nth r1.1 r3.1).Day))).set r3.1.toNat (GMove.mk r4.1 r5.1 ((nth r1.1 r3.1).Day))).set r3.1.toNat (GMove.mk r4.1 r5.1 r6.1)) r6.2))))))
  else
  j2 r1.1 x1)) (fun j1 =>
  if (decide (0 < (r1.1.length : Int))) then
  Option.bind (Stream_Flip p_s_L r1.2 12) (fun r2 =>
  j1 r2.2 r2.1)
  else
  j1 r1.2 false))
def Stream_MeetDay (p_s_L : List Int) (p_s_at : Int) : Option (Int × Int) :=
  Option.bind (Stream_Flip p_s_L p_s_at 15) (fun r1 =>
  if r1.1 then
  Option.bind (Stream_Odd p_s_L r1.2 (-40000) 4000) (fun r2 =>
  some (r2.1, r2.2))
  else
  Option.bind (Stream_Pick p_s_L r1.2 [0, 58, 59, 60, 365, 366, 424, 425, 789, 1519, 1520, 1521, 3000, 4000]) (fun r3 =>
  Option.bind (Stream_Pick p_s_L r3.2 [(-1), 0, 0, 1]) (fun r4 =>
  some (W (r3.1 + r4.1), r4.2))))
def strings_Trim (s c : ByteArray) : Option ByteArray :=
  Chk (decide (s.size ≤ 9223372036854775807)) (Chk (decide (c.size < 4294967281)) (Chk (c.data.toList.all fun b => decide (b.toNat < 128)) (some ⟨(Lib.trimS s.data.toList c.data.toList).toArray⟩)))
def words_IsKey (p_s : ByteArray) : Option Bool :=
  Join (fun (c1 : Bool) =>
  Join (fun (c2 : Bool) =>
  Join (fun (c3 : Bool) =>
  some c3) (fun j3 =>
  if c2 then Option.bind (strings_Trim p_s k_abcdefghijkl_h0e2e2c) (fun r1 =>
  j3 (c2 && (decide (r1 = k_empty)))) else j3 (c2 && true))) (fun j2 =>
  if c1 then Chk (inB 0 p_s.size) (
  j2 (c1 && (decide ((sbyte p_s 0) ≤ 122)))) else j2 (c1 && true))) (fun j1 =>
  if ((decide (1 ≤ (p_s.size : Int))) && (decide ((p_s.size : Int) ≤ 40))) then Chk (inB 0 p_s.size) (
  j1 (((decide (1 ≤ (p_s.size : Int))) && (decide ((p_s.size : Int) ≤ 40))) && (decide (97 ≤ (sbyte p_s 0))))) else j1 (((decide (1 ≤ (p_s.size : Int))) && (decide ((p_s.size : Int) ≤ 40))) && true))
def words_Within (p_n : Int) (p_low : Int) (p_high : Int) : Bool :=
  ((decide (p_low ≤ p_n)) && (decide (p_n ≤ p_high)))
def swimmer_isDay (p_n : Int) : Bool :=
  (words_Within p_n (-40000) 4000)
def strings_Compare (s t : ByteArray) : Int := Lib.compareBytes s.data.toList t.data.toList
def cmp_isNaN_int (p_x : Int) : Bool :=
  !decide (p_x = p_x)
def cmp_Compare_int (p_x : Int) (p_y : Int) : Int :=
  if (cmp_isNaN_int p_x) then
  if (cmp_isNaN_int p_y) then
  0
  else
  (-1)
  else
  if (cmp_isNaN_int p_y) then
  1
  else
  if decide (p_x < p_y) then
  (-1)
  else
  if decide (p_y < p_x) then
  1
  else
  0
def cmp_Or_int_l1 (j1 : Int) : List Int → Nat → Int
  | [], i1 => j1
  | y1 :: ys1, i1 => if !decide (y1 = 0) then
  y1
  else
  cmp_Or_int_l1 j1 ys1 (i1 + 1)
def cmp_Or_int (p_vals : List Int) : Int :=
  Join (0) (fun j1 =>
  cmp_Or_int_l1 j1 p_vals 0)
def swimmer_CheckMoves_l1 (p_l : List GMove) (j1 : Option Int) : List GMove → Nat → Option Int
  | [], i1 => j1
  | y1 :: ys1, i1 => Join (fun (c1 : Bool) =>
  Option.bind (words_IsKey y1.Who) (fun r1 =>
  Join (fun (c2 : Bool) =>
  if c2 then
  some 5
  else
  if !(swimmer_isDay y1.Day) then
  some 1
  else
  Join (fun (x1 : Bool) =>
  if x1 then
  some 7
  else
  Join (fun (x2 : Bool) =>
  if x2 then
  some 3
  else
  swimmer_CheckMoves_l1 p_l j1 ys1 (i1 + 1)) (fun j6 =>
  if (c1 && (decide (y1.Club = k_empty))) then
  j6 (c1 && (decide (y1.Club = k_empty)))
  else
  Join (fun (c4 : Bool) =>
  j6 c4) (fun j7 =>
  if (!c1) then Chk (inB (W ((i1 : Int) - 1)) p_l.length) (
  j7 ((!c1) && (decide (((nth p_l (W ((i1 : Int) - 1))).Club) = y1.Club)))) else j7 ((!c1) && true)))) (fun j5 =>
  if decide (0 < (i1 : Int)) then
  Chk (inB (W ((i1 : Int) - 1)) p_l.length) (
  Chk (inB (W ((i1 : Int) - 1)) p_l.length) (
  j5 (decide (0 ≤ (cmp_Or_int [(strings_Compare ((nth p_l (W ((i1 : Int) - 1))).Who) y1.Who), (cmp_Compare_int ((nth p_l (W ((i1 : Int) - 1))).Day) y1.Day)])))))
  else
  j5 false)) (fun j3 =>
  if (!r1) then j3 ((!r1) || true) else Join (fun (c3 : Bool) =>
  j3 ((!r1) || c3)) (fun j4 =>
  if (!decide (y1.Club = k_empty)) then Option.bind (words_IsKey y1.Club) (fun r2 =>
  j4 ((!decide (y1.Club = k_empty)) && (!r2))) else j4 ((!decide (y1.Club = k_empty)) && true))))) (fun j2 =>
  if (decide ((i1 : Int) = 0)) then j2 ((decide ((i1 : Int) = 0)) || true) else Chk (inB (W ((i1 : Int) - 1)) p_l.length) (
  j2 ((decide ((i1 : Int) = 0)) || (!decide (((nth p_l (W ((i1 : Int) - 1))).Who) = y1.Who)))))
def swimmer_CheckMoves (p_l : List GMove) : Option Int :=
  if decide (1000 < (p_l.length : Int)) then
  some 2
  else
  Join (some 0) (fun j1 =>
  swimmer_CheckMoves_l1 p_l j1 p_l 0)
def swimmer_checkClub (p_l : List GMove) (p_key : ByteArray) (p_day : Int) : Option Int :=
  Option.bind (swimmer_CheckMoves p_l) (fun r1 =>
  if !decide (r1 = 0) then
  some r1
  else
  Option.bind (words_IsKey p_key) (fun r2 =>
  if !r2 then
  some 5
  else
  if !(swimmer_isDay p_day) then
  some 1
  else
  some 0))
def swimmer_clubAt_l1 (p_who : ByteArray) (p_day : Int) (j1 : ByteArray → ByteArray) : List GMove → Nat → ByteArray → ByteArray
  | [], i1, x1 => j1 x1
  | y1 :: ys1, i1, x1 => Join (fun (x2 : ByteArray) =>
  swimmer_clubAt_l1 p_who p_day j1 ys1 (i1 + 1) x2) (fun j2 =>
  Join (fun (x3 : ByteArray) =>
  j2 x3) (fun j3 =>
  if ((decide (y1.Who = p_who)) && (decide (y1.Day ≤ p_day))) then
  j3 y1.Club
  else
  j3 x1))
def swimmer_clubAt (p_l : List GMove) (p_who : ByteArray) (p_day : Int) : ByteArray :=
  Join (fun (x1 : ByteArray) =>
  x1) (fun j1 =>
  swimmer_clubAt_l1 p_who p_day j1 p_l 0 k_empty)
def swimmer_ClubAt (p_l : List GMove) (p_who : ByteArray) (p_day : Int) : Option (ByteArray × Int) :=
  Option.bind (swimmer_checkClub p_l p_who p_day) (fun r1 =>
  if !decide (r1 = 0) then
  some (k_empty, r1)
  else
  some ((swimmer_clubAt p_l p_who p_day), 0))
def swimmer_Members_l1 (p_l : List GMove) (p_day : Int) (p_club : ByteArray) (j1 : (List ByteArray) → Option ((List ByteArray) × Int)) : List GMove → Nat → (List ByteArray) → Option ((List ByteArray) × Int)
  | [], i1, x1 => j1 x1
  | y1 :: ys1, i1, x1 => Join (fun (x2 : List ByteArray) =>
  swimmer_Members_l1 p_l p_day p_club j1 ys1 (i1 + 1) x2) (fun j2 =>
  Join (fun (x3 : Bool) =>
  Join (fun (x4 : List ByteArray) =>
  j2 x4) (fun j4 =>
  if x3 then
  Chk (room x1.length) (
  j4 (x1 ++ [y1.Who]))
  else
  j4 x1)) (fun j3 =>
  if decide ((i1 : Int) = 0) then
  if true then
  j3 (decide ((swimmer_clubAt p_l y1.Who p_day) = p_club))
  else
  j3 false
  else
  Chk (inB (W ((i1 : Int) - 1)) p_l.length) (
  if !decide (((nth p_l (W ((i1 : Int) - 1))).Who) = y1.Who) then
  j3 (decide ((swimmer_clubAt p_l y1.Who p_day) = p_club))
  else
  Chk (inB (W ((i1 : Int) - 1)) p_l.length) (
  j3 false))))
def swimmer_Members (p_l : List GMove) (p_club : ByteArray) (p_day : Int) : Option ((List ByteArray) × Int) :=
  Option.bind (swimmer_checkClub p_l p_club p_day) (fun r1 =>
  if !decide (r1 = 0) then
  some (([] : List ByteArray), r1)
  else
  Join (fun (x1 : List ByteArray) =>
  some (x1, 0)) (fun j1 =>
  swimmer_Members_l1 p_l p_day p_club j1 p_l 0 ([] : List ByteArray)))
def tumbref2_in (p_n : Int) (p_low : Int) (p_high : Int) : Bool :=
  ((decide (p_low ≤ p_n)) && (decide (p_n ≤ p_high)))
def strings_IndexByte (s : ByteArray) (c : Int) : Int := Lib.indexByte s.data.toList c.toNat.toUInt8
def tumbref2_only_l1 (p_s : ByteArray) (p_some : ByteArray) (j1 : Option Bool) : Nat → Int → Option Bool
  | 0, _ => none
  | m1 + 1, x1 => if decide (x1 < (p_s.size : Int)) then
  Chk (inB x1 p_s.size) (
  if decide ((strings_IndexByte p_some (sbyte p_s x1)) < 0) then
  some false
  else
  tumbref2_only_l1 p_s p_some j1 m1 (W (x1 + 1)))
  else
  j1
def tumbref2_only (p_s : ByteArray) (p_some : ByteArray) : Option Bool :=
  Join (some true) (fun j1 =>
  tumbref2_only_l1 p_s p_some j1 (((p_s.size : Int) - 0).toNat + 2) 0)
def tumbref2_Key (p_s : ByteArray) : Option Bool :=
  Join (fun (c1 : Bool) =>
  Join (fun (c2 : Bool) =>
  some c2) (fun j2 =>
  if c1 then Option.bind (tumbref2_only p_s k_abcdefghijkl_h0e2e2c) (fun r2 =>
  j2 (c1 && r2)) else j2 (c1 && true))) (fun j1 =>
  if (tumbref2_in (p_s.size : Int) 1 40) then Chk (cutB 0 1 p_s.size) (
  Option.bind (tumbref2_only (scut p_s 0 1) k_abcdefghijklmnopqrstuvwxyz) (fun r1 =>
  j1 ((tumbref2_in (p_s.size : Int) 1 40) && r1))) else j1 ((tumbref2_in (p_s.size : Int) 1 40) && true))
def tumbref2_Day (p_n : Int) : Bool :=
  (tumbref2_in p_n (-40000) 4000)
def tumbref2_sign (p_n : Int) : Int :=
  if decide (p_n < 0) then
  (-1)
  else
  if decide (0 < p_n) then
  1
  else
  0
def tumbref2_moveOrder (p_a : GMove) (p_b : GMove) : Int :=
  if !decide ((strings_Compare p_a.Who p_b.Who) = 0) then
  (strings_Compare p_a.Who p_b.Who)
  else
  (tumbref2_sign (W (p_a.Day - p_b.Day)))
def tumbref2_MovesFault_l1 (p_l : List GMove) (j1 : Option Int) : List GMove → Nat → Option Int
  | [], i1 => j1
  | y1 :: ys1, i1 => Option.bind (tumbref2_Key y1.Who) (fun r1 =>
  Join (fun (c1 : Bool) =>
  if c1 then
  some 5
  else
  if !(tumbref2_Day y1.Day) then
  some 1
  else
  Join (fun (x1 : Bool) =>
  if x1 then
  some 7
  else
  Join (fun (c3 : Bool) =>
  Join (fun (x2 : ByteArray) =>
  if decide (y1.Club = x2) then
  some 3
  else
  tumbref2_MovesFault_l1 p_l j1 ys1 (i1 + 1)) (fun j6 =>
  if c3 then
  Chk (inB (W ((i1 : Int) - 1)) p_l.length) (
  j6 ((nth p_l (W ((i1 : Int) - 1))).Club))
  else
  j6 k_empty)) (fun j5 =>
  if (decide (0 < (i1 : Int))) then Chk (inB (W ((i1 : Int) - 1)) p_l.length) (
  j5 ((decide (0 < (i1 : Int))) && (decide (((nth p_l (W ((i1 : Int) - 1))).Who) = y1.Who)))) else j5 ((decide (0 < (i1 : Int))) && true))) (fun j4 =>
  if decide (0 < (i1 : Int)) then
  Chk (inB (W ((i1 : Int) - 1)) p_l.length) (
  j4 (decide (0 ≤ (tumbref2_moveOrder (nth p_l (W ((i1 : Int) - 1))) y1))))
  else
  j4 false)) (fun j2 =>
  if (!r1) then j2 ((!r1) || true) else Join (fun (c2 : Bool) =>
  j2 ((!r1) || c2)) (fun j3 =>
  if (!decide (y1.Club = k_empty)) then Option.bind (tumbref2_Key y1.Club) (fun r2 =>
  j3 ((!decide (y1.Club = k_empty)) && (!r2))) else j3 ((!decide (y1.Club = k_empty)) && true))))
def tumbref2_MovesFault (p_l : List GMove) : Option Int :=
  if decide (1000 < (p_l.length : Int)) then
  some 2
  else
  Join (some 0) (fun j1 =>
  tumbref2_MovesFault_l1 p_l j1 p_l 0)
def tumblaw2_when (p_is : Bool) (p_e : Int) : Int :=
  if p_is then
  p_e
  else
  0
def tumblaw2_nameFault (p_s : ByteArray) : Option Int :=
  Option.bind (tumbref2_Key p_s) (fun r1 =>
  some (tumblaw2_when (!r1) 5))
def tumblaw2_errs_l1 (j1 : Int) : List Int → Nat → Int
  | [], i1 => j1
  | y1 :: ys1, i1 => if !decide (y1 = 0) then
  y1
  else
  tumblaw2_errs_l1 j1 ys1 (i1 + 1)
def tumblaw2_errs (p_l : List Int) : Int :=
  Join (0) (fun j1 =>
  tumblaw2_errs_l1 j1 p_l 0)
def tumbref2_ClubFor_l1 (p_who : ByteArray) (p_day : Int) (j1 : ByteArray → ByteArray) : List GMove → Nat → ByteArray → ByteArray
  | [], i1, x1 => j1 x1
  | y1 :: ys1, i1, x1 => Join (fun (x2 : ByteArray) =>
  tumbref2_ClubFor_l1 p_who p_day j1 ys1 (i1 + 1) x2) (fun j2 =>
  Join (fun (x3 : ByteArray) =>
  j2 x3) (fun j3 =>
  if ((decide (y1.Who = p_who)) && (decide (y1.Day ≤ p_day))) then
  j3 y1.Club
  else
  j3 x1))
def tumbref2_ClubFor (p_l : List GMove) (p_who : ByteArray) (p_day : Int) : ByteArray :=
  Join (fun (x1 : ByteArray) =>
  x1) (fun j1 =>
  tumbref2_ClubFor_l1 p_who p_day j1 p_l 0 k_empty)
def slices_Index_string_l1 (p_v : ByteArray) (j1 : Int) : List ByteArray → Nat → Int
  | [], i1 => j1
  | y1 :: ys1, i1 => if decide (p_v = y1) then
  (i1 : Int)
  else
  slices_Index_string_l1 p_v j1 ys1 (i1 + 1)
def slices_Index_string (p_s : List ByteArray) (p_v : ByteArray) : Int :=
  Join ((-1)) (fun j1 =>
  slices_Index_string_l1 p_v j1 p_s 0)
def slices_Contains_string (p_s : List ByteArray) (p_v : ByteArray) : Bool :=
  decide (0 ≤ (slices_Index_string p_s p_v))
def tumbref2_MembersOf_l1 (p_l : List GMove) (p_day : Int) (p_club : ByteArray) (j1 : (List ByteArray) → Option (List ByteArray)) : List GMove → Nat → (List ByteArray) → Option (List ByteArray)
  | [], i1, x1 => j1 x1
  | y1 :: ys1, i1, x1 => Join (fun (x2 : List ByteArray) =>
  tumbref2_MembersOf_l1 p_l p_day p_club j1 ys1 (i1 + 1) x2) (fun j2 =>
  Join (fun (x3 : List ByteArray) =>
  j2 x3) (fun j3 =>
  if ((decide ((tumbref2_ClubFor p_l y1.Who p_day) = p_club)) && (!(slices_Contains_string x1 y1.Who))) then
  Chk (room x1.length) (
  j3 (x1 ++ [y1.Who]))
  else
  j3 x1))
def tumbref2_MembersOf (p_l : List GMove) (p_club : ByteArray) (p_day : Int) : Option (List ByteArray) :=
  Join (fun (x1 : List ByteArray) =>
  some x1) (fun j1 =>
  tumbref2_MembersOf_l1 p_l p_day p_club j1 p_l 0 ([] : List ByteArray))
def slices_Equal_string_l1 (p_s2 : List ByteArray) (j1 : Option Bool) : List ByteArray → Nat → Option Bool
  | [], i1 => j1
  | y1 :: ys1, i1 => Chk (inB (i1 : Int) p_s2.length) (
  if !decide (y1 = (nth p_s2 (i1 : Int))) then
  some false
  else
  slices_Equal_string_l1 p_s2 j1 ys1 (i1 + 1))
def slices_Equal_string (p_s1 : List ByteArray) (p_s2 : List ByteArray) : Option Bool :=
  if !decide ((p_s1.length : Int) = (p_s2.length : Int)) then
  some false
  else
  Join (some true) (fun j1 =>
  slices_Equal_string_l1 p_s2 j1 p_s1 0)
def Stream_MeetRace (p_s_L : List Int) (p_s_at : Int) (p_key : ByteArray) : Option (GRace × Int) :=
  Option.bind (Stream_Pick p_s_L p_s_at [50, 100, 200]) (fun r1 =>
  Option.bind (Stream_Pick p_s_L r1.2 [1, 2, 3, 4]) (fun r2 =>
  Option.bind (Stream_Pick p_s_L r2.2 [25, 50]) (fun r3 =>
  Option.bind (Stream_Pick p_s_L r3.2 [1, 1, 1, 4]) (fun r4 =>
  Option.bind (Stream_Pick p_s_L r4.2 [0, 1, 2]) (fun r5 =>
  Option.bind (Stream_Pick p_s_L r5.2 [0, 0, 5, 10]) (fun r6 =>
  Option.bind (Stream_Pick p_s_L r6.2 [0, 5, 90]) (fun r7 =>
  some ((GRace.mk p_key r1.1 r2.1 r3.1 r4.1 r5.1 r6.1 (W (r6.1 + r7.1))), r7.2))))))))
def timing_CheckRace (p_r : GRace) : Option Int :=
  Option.bind (words_IsKey p_r.Key) (fun r1 =>
  if !r1 then
  some 5
  else
  if ((!(words_Within p_r.Stroke 1 5)) || (!(words_Within p_r.Sex 0 2))) then
  some 4
  else
  if (((((((!decide (p_r.Course = 25)) && (!decide (p_r.Course = 50))) || (!(words_Within p_r.Legs 1 4))) || (!(words_Within p_r.Metres 25 1500))) || (decide (p_r.Young < 0))) || (decide (p_r.Old < p_r.Young))) || (decide (120 < p_r.Old))) then
  some 1
  else
  Chk (!decide (p_r.Course = 0)) (
  if !decide ((Int.tmod p_r.Metres p_r.Course) = 0) then
  some 3
  else
  Join (fun (c1 : Bool) =>
  Join (fun (x1 : Bool) =>
  if x1 then
  some 16
  else
  some 0) (fun j2 =>
  if c1 then
  j2 c1
  else
  j2 (((decide (p_r.Stroke = 5)) && (decide (1 < p_r.Legs))) && (!decide (p_r.Legs = 4))))) (fun j1 =>
  if ((decide (p_r.Stroke = 5)) && (decide (p_r.Legs = 1))) then Chk (!decide ((W (4 * p_r.Course)) = 0)) (
  j1 (((decide (p_r.Stroke = 5)) && (decide (p_r.Legs = 1))) && (!decide ((Int.tmod p_r.Metres (W (4 * p_r.Course))) = 0)))) else j1 (((decide (p_r.Stroke = 5)) && (decide (p_r.Legs = 1))) && true))))
def swimmer_CheckSwimmers_l1 (p_l : List GSwimmer) (j1 : Option Int) : List GSwimmer → Nat → Option Int
  | [], i1 => j1
  | y1 :: ys1, i1 => Option.bind (words_IsKey y1.Key) (fun r1 =>
  if !r1 then
  some 5
  else
  Join (fun (c1 : Bool) =>
  if c1 then
  some 7
  else
  if (((!decide (y1.Sex = 1)) && (!decide (y1.Sex = 2))) || (!(swimmer_isDay y1.Born))) then
  some 1
  else
  swimmer_CheckSwimmers_l1 p_l j1 ys1 (i1 + 1)) (fun j2 =>
  if (decide (0 < (i1 : Int))) then Chk (inB (W ((i1 : Int) - 1)) p_l.length) (
  j2 ((decide (0 < (i1 : Int))) && (Sless y1.Key ((nth p_l (W ((i1 : Int) - 1))).Key) || decide (y1.Key = ((nth p_l (W ((i1 : Int) - 1))).Key))))) else j2 ((decide (0 < (i1 : Int))) && true)))
def swimmer_CheckSwimmers (p_l : List GSwimmer) : Option Int :=
  if decide (500 < (p_l.length : Int)) then
  some 2
  else
  Join (some 0) (fun j1 =>
  swimmer_CheckSwimmers_l1 p_l j1 p_l 0)
def swimmer_isWay (p_n : Int) : Bool :=
  ((decide (p_n = 1)) || (decide (p_n = 2)))
def swimmer_checkAge (p_s : GSwimmer) (p_day : Int) (p_way : Int) : Option Int :=
  Option.bind (swimmer_CheckSwimmers [p_s]) (fun r1 =>
  if !decide (r1 = 0) then
  some r1
  else
  if !(words_Within p_day p_s.Born 4000) then
  some 1
  else
  if !(swimmer_isWay p_way) then
  some 4
  else
  some 0)
def swimmer_leap (p_year : Int) : Bool :=
  ((decide ((Int.tmod p_year 4) = 0)) && ((!decide ((Int.tmod p_year 100) = 0)) || (decide ((Int.tmod p_year 400) = 0))))
def swimmer_yearLong (p_year : Int) : Int :=
  if (swimmer_leap p_year) then
  366
  else
  365
def swimmer_long (p_year : Int) (p_month : Int) : Int :=
  if decide (p_month = 2) then
  if (swimmer_leap p_year) then
  29
  else
  28
  else
  Join (fun (x1 : Bool) =>
  if x1 then
  30
  else
  31) (fun j1 =>
  if decide (p_month = 4) then
  j1 (decide (p_month = 4))
  else
  Join (fun (x2 : Bool) =>
  j1 x2) (fun j2 =>
  if decide (p_month = 6) then
  j2 (decide (p_month = 6))
  else
  Join (fun (x3 : Bool) =>
  j2 x3) (fun j3 =>
  if decide (p_month = 9) then
  j3 (decide (p_month = 9))
  else
  j3 (decide (p_month = 11)))))
def swimmer_dateOf_l1 (j1 : Int → Int → Option GDate) : Nat → Int → Int → Option GDate
  | 0, _, _ => none
  | m1 + 1, x1, x2 => if decide (x2 < 0) then
  swimmer_dateOf_l1 j1 m1 (W (x1 - 1)) (W (x2 + (swimmer_yearLong (W (x1 - 1)))))
  else
  j1 x1 x2
def swimmer_dateOf_l2 (j2 : Int → Int → Option GDate) : Nat → Int → Int → Option GDate
  | 0, _, _ => none
  | m2 + 1, x3, x4 => if decide ((swimmer_yearLong x3) ≤ x4) then
  swimmer_dateOf_l2 j2 m2 (W (x3 + 1)) (W (x4 - (swimmer_yearLong x3)))
  else
  j2 x3 x4
def swimmer_dateOf_l3 (x3 : Int) (j3 : Int → Int → Option GDate) : Nat → Int → Int → Option GDate
  | 0, _, _ => none
  | m3 + 1, x5, x6 => if decide ((swimmer_long x3 x5) ≤ x6) then
  swimmer_dateOf_l3 x3 j3 m3 (W (x5 + 1)) (W (x6 - (swimmer_long x3 x5)))
  else
  j3 x5 x6
def swimmer_dateOf (p_day : Int) : Option GDate :=
  Join (fun (x1 : Int) (x2 : Int) =>
  Join (fun (x3 : Int) (x4 : Int) =>
  Join (fun (x5 : Int) (x6 : Int) =>
  some (GDate.mk x3 x5 (W (x6 + 1)))) (fun j3 =>
  swimmer_dateOf_l3 x3 j3 ((x4 - (swimmer_long x3 1)).toNat + 2) 1 x4)) (fun j2 =>
  swimmer_dateOf_l2 j2 ((x2 - (swimmer_yearLong x1)).toNat + 2) x1 x2)) (fun j1 =>
  swimmer_dateOf_l1 j1 ((0 - p_day).toNat + 2) 2024 p_day)
def swimmer_age (p_s : GSwimmer) (p_day : Int) (p_way : Int) : Option Int :=
  Option.bind (swimmer_dateOf p_s.Born) (fun r1 =>
  Option.bind (swimmer_dateOf p_day) (fun r2 =>
  Join (fun (x1 : Bool) =>
  Join (fun (x2 : Int) =>
  some x2) (fun j2 =>
  if x1 then
  j2 (W ((W (r2.Year - r1.Year)) - 1))
  else
  j2 (W (r2.Year - r1.Year)))) (fun j1 =>
  if decide (p_way = 1) then
  j1 (decide ((cmp_Or_int [(cmp_Compare_int r2.Month r1.Month), (cmp_Compare_int r2.Day r1.Day)]) < 0))
  else
  j1 false)))
def swimmer_may (p_r : GRace) (p_s : GSwimmer) (p_day : Int) (p_way : Int) : Option Bool :=
  Join (fun (x1 : Bool) =>
  some x1) (fun j1 =>
  if decide (p_r.Sex = 0) then
  if true then
  Option.bind (swimmer_age p_s p_day p_way) (fun r1 =>
  j1 (words_Within r1 p_r.Young p_r.Old))
  else
  j1 false
  else
  if decide (p_r.Sex = p_s.Sex) then
  Option.bind (swimmer_age p_s p_day p_way) (fun r2 =>
  j1 (words_Within r2 p_r.Young p_r.Old))
  else
  j1 false)
def swimmer_May (p_r : GRace) (p_s : GSwimmer) (p_day : Int) (p_way : Int) : Option (Bool × Int) :=
  Option.bind (timing_CheckRace p_r) (fun r1 =>
  if !decide (r1 = 0) then
  some (false, r1)
  else
  Option.bind (swimmer_checkAge p_s p_day p_way) (fun r2 =>
  if !decide (r2 = 0) then
  some (false, r2)
  else
  Option.bind (swimmer_may p_r p_s p_day p_way) (fun r3 =>
  some (r3, 0))))
def tumbref1_in (p_n : Int) (p_low : Int) (p_high : Int) : Bool :=
  ((decide (p_low ≤ p_n)) && (decide (p_n ≤ p_high)))
def tumbref1_Key (p_s : ByteArray) : Option Bool :=
  Join (fun (c1 : Bool) =>
  Join (fun (c2 : Bool) =>
  some c2) (fun j2 =>
  if c1 then Chk (inB 0 p_s.size) (
  j2 (c1 && (decide (0 ≤ (strings_IndexByte k_abcdefghijklmnopqrstuvwxyz (sbyte p_s 0)))))) else j2 (c1 && true))) (fun j1 =>
  if (tumbref1_in (p_s.size : Int) 1 40) then Option.bind (strings_Trim p_s k_abcdefghijkl_h0e2e2c) (fun r1 =>
  j1 ((tumbref1_in (p_s.size : Int) 1 40) && (decide (r1 = k_empty)))) else j1 ((tumbref1_in (p_s.size : Int) 1 40) && true))
def tumbref1_RaceFault (p_r : GRace) : Option Int :=
  Option.bind (tumbref1_Key p_r.Key) (fun r1 =>
  if !r1 then
  some 5
  else
  if ((!(tumbref1_in p_r.Stroke 1 5)) || (!(tumbref1_in p_r.Sex 0 2))) then
  some 4
  else
  Join (fun (x1 : Bool) =>
  if x1 then
  some 1
  else
  Chk (!decide (p_r.Course = 0)) (
  if !decide ((Int.tmod p_r.Metres p_r.Course) = 0) then
  some 3
  else
  Join (fun (c1 : Bool) =>
  if c1 then
  some 16
  else
  some 0) (fun j5 =>
  if (decide (p_r.Stroke = 5)) then Join (fun (c2 : Bool) =>
  j5 ((decide (p_r.Stroke = 5)) && (c2 || ((decide (1 < p_r.Legs)) && (!decide (p_r.Legs = 4)))))) (fun j6 =>
  if (decide (p_r.Legs = 1)) then Chk (!decide ((W (4 * p_r.Course)) = 0)) (
  j6 ((decide (p_r.Legs = 1)) && (!decide ((Int.tmod p_r.Metres (W (4 * p_r.Course))) = 0)))) else j6 ((decide (p_r.Legs = 1)) && true)) else j5 ((decide (p_r.Stroke = 5)) && true)))) (fun j1 =>
  if ((!decide (p_r.Course = 25)) && (!decide (p_r.Course = 50))) then
  j1 ((!decide (p_r.Course = 25)) && (!decide (p_r.Course = 50)))
  else
  Join (fun (x2 : Bool) =>
  j1 x2) (fun j2 =>
  if !(tumbref1_in p_r.Legs 1 4) then
  j2 (!(tumbref1_in p_r.Legs 1 4))
  else
  Join (fun (x3 : Bool) =>
  j2 x3) (fun j3 =>
  if !(tumbref1_in p_r.Metres 25 1500) then
  j3 (!(tumbref1_in p_r.Metres 25 1500))
  else
  Join (fun (x4 : Bool) =>
  j3 x4) (fun j4 =>
  if !(tumbref1_in p_r.Young 0 p_r.Old) then
  j4 (!(tumbref1_in p_r.Young 0 p_r.Old))
  else
  j4 (decide (120 < p_r.Old)))))))
def tumbref2_SwimmersFault_l1 (j1 : Option Int) : List GSwimmer → Nat → ByteArray → Option Int
  | [], i1, x1 => j1
  | y1 :: ys1, i1, x1 => Option.bind (tumbref2_Key y1.Key) (fun r1 =>
  if !r1 then
  some 5
  else
  if (Sless y1.Key x1 || decide (y1.Key = x1)) then
  some 7
  else
  if ((!(tumbref2_in y1.Sex 1 2)) || (!(tumbref2_Day y1.Born))) then
  some 1
  else
  tumbref2_SwimmersFault_l1 j1 ys1 (i1 + 1) y1.Key)
def tumbref2_SwimmersFault (p_l : List GSwimmer) : Option Int :=
  if decide (500 < (p_l.length : Int)) then
  some 2
  else
  Join (some 0) (fun j1 =>
  tumbref2_SwimmersFault_l1 j1 p_l 0 k_empty)
def tumbref2_AgeFault (p_s : GSwimmer) (p_day : Int) (p_way : Int) : Option Int :=
  Option.bind (tumbref2_SwimmersFault [p_s]) (fun r1 =>
  if !decide (r1 = 0) then
  some r1
  else
  if !(tumbref2_in p_day p_s.Born 4000) then
  some 1
  else
  if !(tumbref2_in p_way 1 2) then
  some 4
  else
  some 0)
def tumbref2_pastDate : GDate :=
  (GDate.mk 1914 6 27)
def tumbref2_monthLong (p_y : Int) (p_m : Int) : Option Int :=
  if ((decide (p_m = 2)) && (((decide ((Int.tmod p_y 4) = 0)) && (!decide ((Int.tmod p_y 100) = 0))) || (decide ((Int.tmod p_y 400) = 0)))) then
  some 29
  else
  Chk (inB (W (p_m - 1)) ([31, 28, 31, 30, 31, 30, 31, 31, 30, 31, 30, 31] : List Int).length) (
  some (nth [31, 28, 31, 30, 31, 30, 31, 31, 30, 31, 30, 31] (W (p_m - 1))))
def tumbref2_next (p_d : GDate) : Option GDate :=
  Option.bind (tumbref2_monthLong p_d.Year p_d.Month) (fun r1 =>
  Join (fun (x1 : Int) (x2 : Int) (x3 : Int) =>
  some (GDate.mk x1 x2 x3)) (fun j1 =>
  if decide (r1 < (W (p_d.Day + 1))) then
  Join (fun (x4 : Int) (x5 : Int) =>
  j1 x4 x5 1) (fun j2 =>
  if decide (12 < (W (p_d.Month + 1))) then
  j2 (W (p_d.Year + 1)) 1
  else
  j2 p_d.Year (W (p_d.Month + 1)))
  else
  j1 p_d.Year p_d.Month (W (p_d.Day + 1))))
def tumbref2_DateFor_l1 (p_day : Int) (j1 : Int → Int → Int → Option GDate) : Nat → Int → Int → Int → Int → Option GDate
  | 0, _, _, _, _ => none
  | m1 + 1, x1, x2, x3, x4 => if decide (x4 < p_day) then
  Option.bind (tumbref2_monthLong x1 x2) (fun r1 =>
  Join (fun (x5 : Int) (x6 : Int) =>
  Option.bind (tumbref2_next (GDate.mk x1 x2 x5)) (fun r3 =>
  tumbref2_DateFor_l1 p_day j1 m1 r3.Year r3.Month r3.Day x6)) (fun j2 =>
  if decide ((W ((W (x4 + (W (r1 - x3)))) + 1)) ≤ p_day) then
  Option.bind (tumbref2_monthLong x1 x2) (fun r2 =>
  j2 r2 (W (x4 + (W ((W (r1 - x3)) + 1)))))
  else
  j2 (W (x3 + (W ((W (p_day - x4)) - 1)))) p_day))
  else
  j1 x1 x2 x3
def tumbref2_DateFor (p_day : Int) : Option GDate :=
  Join (fun (x1 : Int) (x2 : Int) (x3 : Int) =>
  some (GDate.mk x1 x2 x3)) (fun j1 =>
  tumbref2_DateFor_l1 p_day j1 ((p_day - (-40000)).toNat + 2) tumbref2_pastDate.Year tumbref2_pastDate.Month tumbref2_pastDate.Day (-40000))
def slices_Compare_int_l1 (p_s2 : List Int) (j1 : Option Int) : List Int → Nat → Option Int
  | [], i1 => j1
  | y1 :: ys1, i1 => if decide ((p_s2.length : Int) ≤ (i1 : Int)) then
  some 1
  else
  Chk (inB (i1 : Int) p_s2.length) (
  if !decide ((cmp_Compare_int y1 (nth p_s2 (i1 : Int))) = 0) then
  some (cmp_Compare_int y1 (nth p_s2 (i1 : Int)))
  else
  slices_Compare_int_l1 p_s2 j1 ys1 (i1 + 1))
def slices_Compare_int (p_s1 : List Int) (p_s2 : List Int) : Option Int :=
  Join (if decide ((p_s1.length : Int) < (p_s2.length : Int)) then
  some (-1)
  else
  some 0) (fun j1 =>
  slices_Compare_int_l1 p_s2 j1 p_s1 0)
def tumbref2_dateOrder (p_a : GDate) (p_b : GDate) : Option Int :=
  Option.bind (slices_Compare_int [p_a.Year, p_a.Month, p_a.Day] [p_b.Year, p_b.Month, p_b.Day]) (fun r1 =>
  some r1)
def tumbref2_AgeFor_l1 (r1 : GDate) (r2 : GDate) (j1 : Int → Option Int) : Nat → Int → Int → Option Int
  | 0, _, _ => none
  | m1 + 1, x1, x2 => Option.bind (tumbref2_dateOrder (GDate.mk x2 r1.Month r1.Day) r2) (fun r3 =>
  if decide (r3 ≤ 0) then
  tumbref2_AgeFor_l1 r1 r2 j1 m1 (W (x1 + 1)) (W (x2 + 1))
  else
  j1 x1)
def tumbref2_AgeFor (p_s : GSwimmer) (p_day : Int) (p_way : Int) : Option Int :=
  Option.bind (tumbref2_DateFor p_s.Born) (fun r1 =>
  Option.bind (tumbref2_DateFor p_day) (fun r2 =>
  if decide (p_way = 2) then
  some (W (r2.Year - r1.Year))
  else
  Join (fun (x1 : Int) =>
  some x1) (fun j1 =>
  tumbref2_AgeFor_l1 r1 r2 j1 4611686018427387904 0 (W (r1.Year + 1)))))
def tumbref2_MayFor (p_r : GRace) (p_s : GSwimmer) (p_day : Int) (p_way : Int) : Option Bool :=
  Join (fun (x1 : Bool) =>
  some x1) (fun j1 =>
  if decide (p_r.Sex = 0) then
  if true then
  Option.bind (tumbref2_AgeFor p_s p_day p_way) (fun r1 =>
  j1 (tumbref2_in r1 p_r.Young p_r.Old))
  else
  j1 false
  else
  if decide (p_r.Sex = p_s.Sex) then
  Option.bind (tumbref2_AgeFor p_s p_day p_way) (fun r2 =>
  j1 (tumbref2_in r2 p_r.Young p_r.Old))
  else
  j1 false)
def swimmer_DayOf_l1 (p_d : GDate) (j2 : Int → Option (Int × Int)) : Nat → Int → Int → Option (Int × Int)
  | 0, _, _ => none
  | m1 + 1, x2, x3 => if decide (x3 < p_d.Month) then
  swimmer_DayOf_l1 p_d j2 m1 (W (x2 + (swimmer_long p_d.Year x3))) (W (x3 + 1))
  else
  j2 x2
def swimmer_DayOf_l2 (p_d : GDate) (j3 : Int → Option (Int × Int)) : Nat → Int → Int → Option (Int × Int)
  | 0, _, _ => none
  | m2 + 1, x4, x5 => if decide (x5 < p_d.Year) then
  swimmer_DayOf_l2 p_d j3 m2 (W (x4 + (swimmer_yearLong x5))) (W (x5 + 1))
  else
  j3 x4
def swimmer_DayOf_l3 (j4 : Int → Option (Int × Int)) : Nat → Int → Int → Option (Int × Int)
  | 0, _, _ => none
  | m3 + 1, x6, x7 => if decide (x7 < 2024) then
  swimmer_DayOf_l3 j4 m3 (W (x6 - (swimmer_yearLong x7))) (W (x7 + 1))
  else
  j4 x6
def swimmer_DayOf (p_d : GDate) : Option (Int × Int) :=
  Join (fun (x1 : Bool) =>
  if x1 then
  some (0, 1)
  else
  Join (fun (x2 : Int) =>
  Join (fun (x4 : Int) =>
  Join (fun (x6 : Int) =>
  if !(swimmer_isDay x6) then
  some (0, 1)
  else
  some (x6, 0)) (fun j4 =>
  swimmer_DayOf_l3 j4 ((2024 - p_d.Year).toNat + 2) x4 p_d.Year)) (fun j3 =>
  swimmer_DayOf_l2 p_d j3 ((p_d.Year - 2024).toNat + 2) x2 2024)) (fun j2 =>
  swimmer_DayOf_l1 p_d j2 ((p_d.Month - 1).toNat + 2) (W (p_d.Day - 1)) 1)) (fun j1 =>
  if !(words_Within p_d.Year 1900 2100) then
  if true then
  j1 true
  else
  j1 (!(words_Within p_d.Day 1 (swimmer_long p_d.Year p_d.Month)))
  else
  if !(words_Within p_d.Month 1 12) then
  j1 true
  else
  j1 (!(words_Within p_d.Day 1 (swimmer_long p_d.Year p_d.Month))))
def tumblaw2_dated : Option Bool :=
  Option.bind (swimmer_DayOf (GDate.mk 2024 3 1)) (fun r1 =>
  some ((decide (r1.2 = 0)) && (decide (r1.1 = 60))))
def tumblaw2_ClubsMoves (p_l : List Int) : Option Bool :=
  Option.bind (Stream_Moves p_l 0) (fun r1 =>
  Option.bind (Stream_Some p_l r1.2 [k_ann, k_bea, k_cid, k_zed, k_empty]) (fun r2 =>
  Option.bind (Stream_Some p_l r2.2 [k_blue, k_red, k_zed, k_A]) (fun r3 =>
  Option.bind (Stream_MeetDay p_l r3.2) (fun r4 =>
  Option.bind (swimmer_ClubAt r1.1 r2.1 r4.1) (fun r5 =>
  Option.bind (swimmer_Members r1.1 r3.1 r4.1) (fun r6 =>
  Option.bind (tumbref2_MovesFault r1.1) (fun r7 =>
  Option.bind (tumblaw2_nameFault r2.1) (fun r8 =>
  Option.bind (tumblaw2_nameFault r3.1) (fun r9 =>
  Join (fun (x1 : ByteArray) =>
  Join (fun (x2 : List ByteArray) =>
  Option.bind (swimmer_CheckMoves r1.1) (fun r11 =>
  Join (fun (c1 : Bool) =>
  if c1 then
  some false
  else
  Option.bind (Stream_MeetRace p_l r4.2 k_ra) (fun r13 =>
  Option.bind (Stream_Pick p_l r13.2 [1, 2]) (fun r14 =>
  Option.bind (Stream_Pick p_l r14.2 [59, 0, (-1), (-3653)]) (fun r15 =>
  Option.bind (Stream_Pick p_l r15.2 [1, 2, 0]) (fun r16 =>
  Option.bind (Stream_Flip p_l r16.2 12) (fun r17 =>
  Join (fun (x3 : Int) =>
  Option.bind (swimmer_May (GRace.mk r13.1.Key r13.1.Metres r13.1.Stroke x3 r13.1.Legs r13.1.Sex r13.1.Young r13.1.Old) (GSwimmer.mk k_ann r14.1 r15.1) r4.1 r16.1) (fun r18 =>
  Option.bind (tumbref1_RaceFault (GRace.mk r13.1.Key r13.1.Metres r13.1.Stroke x3 r13.1.Legs r13.1.Sex r13.1.Young r13.1.Old)) (fun r19 =>
  Option.bind (tumbref2_AgeFault (GSwimmer.mk k_ann r14.1 r15.1) r4.1 r16.1) (fun r20 =>
  Join (fun (c2 : Bool) =>
  Join (fun (c4 : Bool) =>
  some c4) (fun j7 =>
  if c2 then Option.bind (tumblaw2_dated) (fun r22 =>
  j7 (c2 && r22)) else j7 (c2 && true))) (fun j5 =>
  if (decide (r18.2 = (tumblaw2_errs [r19, r20]))) then Join (fun (c3 : Bool) =>
  j5 ((decide (r18.2 = (tumblaw2_errs [r19, r20]))) && (decide (r18.1 = c3)))) (fun j6 =>
  if (decide ((tumblaw2_errs [r19, r20]) = 0)) then Option.bind (tumbref2_MayFor (GRace.mk r13.1.Key r13.1.Metres r13.1.Stroke x3 r13.1.Legs r13.1.Sex r13.1.Young r13.1.Old) (GSwimmer.mk k_ann r14.1 r15.1) r4.1 r16.1) (fun r21 =>
  j6 ((decide ((tumblaw2_errs [r19, r20]) = 0)) && r21)) else j6 ((decide ((tumblaw2_errs [r19, r20]) = 0)) && true)) else j5 ((decide (r18.2 = (tumblaw2_errs [r19, r20]))) && true)))))) (fun j4 =>
  if r17.1 then
  j4 33
  else
  j4 r13.1.Course))))))) (fun j3 =>
  if ((((!decide (r11 = r7)) || (!decide (r5.2 = (tumblaw2_errs [r7, r8, (tumblaw2_when (!(tumbref2_Day r4.1)) 1)])))) || (!decide (r5.1 = x1))) || (!decide (r6.2 = (tumblaw2_errs [r7, r9, (tumblaw2_when (!(tumbref2_Day r4.1)) 1)])))) then j3 (((((!decide (r11 = r7)) || (!decide (r5.2 = (tumblaw2_errs [r7, r8, (tumblaw2_when (!(tumbref2_Day r4.1)) 1)])))) || (!decide (r5.1 = x1))) || (!decide (r6.2 = (tumblaw2_errs [r7, r9, (tumblaw2_when (!(tumbref2_Day r4.1)) 1)])))) || true) else Option.bind (slices_Equal_string r6.1 x2) (fun r12 =>
  j3 (((((!decide (r11 = r7)) || (!decide (r5.2 = (tumblaw2_errs [r7, r8, (tumblaw2_when (!(tumbref2_Day r4.1)) 1)])))) || (!decide (r5.1 = x1))) || (!decide (r6.2 = (tumblaw2_errs [r7, r9, (tumblaw2_when (!(tumbref2_Day r4.1)) 1)])))) || (!r12)))))) (fun j2 =>
  if decide ((tumblaw2_errs [r7, r9, (tumblaw2_when (!(tumbref2_Day r4.1)) 1)]) = 0) then
  Option.bind (tumbref2_MembersOf r1.1 r3.1 r4.1) (fun r10 =>
  j2 r10)
  else
  j2 ([] : List ByteArray))) (fun j1 =>
  if decide ((tumblaw2_errs [r7, r8, (tumblaw2_when (!(tumbref2_Day r4.1)) 1)]) = 0) then
  j1 (tumbref2_ClubFor r1.1 r2.1 r4.1)
  else
  j1 k_empty))))))))))
/-- The loops' equations are made here, once. -/
theorem twin_eqs : True := by
  have h := @Stream_RightMoves_l2.eq_def; clear h; have h := @Stream_RightMoves_l2.eq_1; clear h; have h := @Stream_RightMoves_l2.eq_2; clear h
  have h := @Stream_RightMoves_l1.eq_def; clear h; have h := @Stream_RightMoves_l1.eq_1; clear h; have h := @Stream_RightMoves_l1.eq_2; clear h
  have h := @cmp_Or_int_l1.eq_def; clear h; have h := @cmp_Or_int_l1.eq_1; clear h; have h := @cmp_Or_int_l1.eq_2; clear h
  have h := @swimmer_CheckMoves_l1.eq_def; clear h; have h := @swimmer_CheckMoves_l1.eq_1; clear h; have h := @swimmer_CheckMoves_l1.eq_2; clear h
  have h := @swimmer_clubAt_l1.eq_def; clear h; have h := @swimmer_clubAt_l1.eq_1; clear h; have h := @swimmer_clubAt_l1.eq_2; clear h
  have h := @swimmer_Members_l1.eq_def; clear h; have h := @swimmer_Members_l1.eq_1; clear h; have h := @swimmer_Members_l1.eq_2; clear h
  have h := @tumbref2_only_l1.eq_def; clear h; have h := @tumbref2_only_l1.eq_1; clear h; have h := @tumbref2_only_l1.eq_2; clear h
  have h := @tumbref2_MovesFault_l1.eq_def; clear h; have h := @tumbref2_MovesFault_l1.eq_1; clear h; have h := @tumbref2_MovesFault_l1.eq_2; clear h
  have h := @tumblaw2_errs_l1.eq_def; clear h; have h := @tumblaw2_errs_l1.eq_1; clear h; have h := @tumblaw2_errs_l1.eq_2; clear h
  have h := @tumbref2_ClubFor_l1.eq_def; clear h; have h := @tumbref2_ClubFor_l1.eq_1; clear h; have h := @tumbref2_ClubFor_l1.eq_2; clear h
  have h := @slices_Index_string_l1.eq_def; clear h; have h := @slices_Index_string_l1.eq_1; clear h; have h := @slices_Index_string_l1.eq_2; clear h
  have h := @tumbref2_MembersOf_l1.eq_def; clear h; have h := @tumbref2_MembersOf_l1.eq_1; clear h; have h := @tumbref2_MembersOf_l1.eq_2; clear h
  have h := @slices_Equal_string_l1.eq_def; clear h; have h := @slices_Equal_string_l1.eq_1; clear h; have h := @slices_Equal_string_l1.eq_2; clear h
  have h := @swimmer_CheckSwimmers_l1.eq_def; clear h; have h := @swimmer_CheckSwimmers_l1.eq_1; clear h; have h := @swimmer_CheckSwimmers_l1.eq_2; clear h
  have h := @swimmer_dateOf_l1.eq_def; clear h; have h := @swimmer_dateOf_l1.eq_1; clear h; have h := @swimmer_dateOf_l1.eq_2; clear h
  have h := @swimmer_dateOf_l2.eq_def; clear h; have h := @swimmer_dateOf_l2.eq_1; clear h; have h := @swimmer_dateOf_l2.eq_2; clear h
  have h := @swimmer_dateOf_l3.eq_def; clear h; have h := @swimmer_dateOf_l3.eq_1; clear h; have h := @swimmer_dateOf_l3.eq_2; clear h
  have h := @tumbref2_SwimmersFault_l1.eq_def; clear h; have h := @tumbref2_SwimmersFault_l1.eq_1; clear h; have h := @tumbref2_SwimmersFault_l1.eq_2; clear h
  have h := @tumbref2_DateFor_l1.eq_def; clear h; have h := @tumbref2_DateFor_l1.eq_1; clear h; have h := @tumbref2_DateFor_l1.eq_2; clear h
  have h := @slices_Compare_int_l1.eq_def; clear h; have h := @slices_Compare_int_l1.eq_1; clear h; have h := @slices_Compare_int_l1.eq_2; clear h
  have h := @tumbref2_AgeFor_l1.eq_def; clear h; have h := @tumbref2_AgeFor_l1.eq_1; clear h; have h := @tumbref2_AgeFor_l1.eq_2; clear h
  have h := @swimmer_DayOf_l1.eq_def; clear h; have h := @swimmer_DayOf_l1.eq_1; clear h; have h := @swimmer_DayOf_l1.eq_2; clear h
  have h := @swimmer_DayOf_l2.eq_def; clear h; have h := @swimmer_DayOf_l2.eq_1; clear h; have h := @swimmer_DayOf_l2.eq_2; clear h
  have h := @swimmer_DayOf_l3.eq_def; clear h; have h := @swimmer_DayOf_l3.eq_1; clear h; have h := @swimmer_DayOf_l3.eq_2; clear h
  trivial
end Go.Proofs.YtoojifenkcnjdaaDoor
