/- The Go functions as plain Lean functions, by program. -/
import Derived.Test.YthefdlbcibhblaaDoorBase
namespace Go.Proofs.YthefdlbcibhblaaDoor
open Go
structure Gtumbmake_Stream where
  L : List Int
  at_ : Int
  deriving DecidableEq, Inhabited
structure GLeg where
  Who : ByteArray
  Times : List Int
  deriving DecidableEq, Inhabited
structure GDate where
  Year : Int
  Month : Int
  Day : Int
  deriving DecidableEq, Inhabited
structure GItem where
  Key : ByteArray
  Heats : Int
  Long : Int
  Gap : Int
  Break : Int
  deriving DecidableEq, Inhabited
structure GWindow where
  From : Int
  To : Int
  deriving DecidableEq, Inhabited
structure GSlot where
  Item : ByteArray
  Heat : Int
  Time : GWindow
  deriving DecidableEq, Inhabited
structure GBase where
  Race : ByteArray
  Time : Int
  deriving DecidableEq, Inhabited
structure GKind where
  Key : ByteArray
  Race : ByteArray
  Clubs : List ByteArray
  Young : Int
  Old : Int
  deriving DecidableEq, Inhabited
structure GStep where
  At : Int
  Kind : Int
  Id : ByteArray
  Who : ByteArray
  Club : ByteArray
  Race : ByteArray
  Age : Int
  Time : Int
  deriving DecidableEq, Inhabited
structure Gswimmer_crew where
  l_ : List GLeg
  bound_ : Int
  now_ : List ByteArray
  names_ : List ByteArray
  sum_ : Int
  found_ : Bool
  deriving DecidableEq, Inhabited
def k_empty : ByteArray := ⟨#[]⟩
def k_aa : ByteArray := ⟨#[97, 97]⟩
def k_bb : ByteArray := ⟨#[98, 98]⟩
def k_cc : ByteArray := ⟨#[99, 99]⟩
def k_xa : ByteArray := ⟨#[120, 97]⟩
def k_xb : ByteArray := ⟨#[120, 98]⟩
def k_xc : ByteArray := ⟨#[120, 99]⟩
def k_abcdefghijklmnopqrstuvwxyz : ByteArray := ⟨#[97, 98, 99, 100, 101, 102, 103, 104, 105, 106, 107, 108, 109, 110, 111, 112, 113, 114, 115, 116, 117, 118, 119, 120, 121, 122]⟩
def k_abcdefghijkl_h0e2e2c : ByteArray := ⟨#[97, 98, 99, 100, 101, 102, 103, 104, 105, 106, 107, 108, 109, 110, 111, 112, 113, 114, 115, 116, 117, 118, 119, 120, 121, 122, 48, 49, 50, 51, 52, 53, 54, 55, 56, 57, 45, 95]⟩
def k_a : ByteArray := ⟨#[97]⟩
def k_r : ByteArray := ⟨#[114]⟩
def k__00_01_02_02_h633d86 : ByteArray := ⟨#[0, 1, 2, 2, 3, 3, 3, 3, 4, 4, 4, 4, 4, 4, 4, 4, 5, 5, 5, 5, 5, 5, 5, 5, 5, 5, 5, 5, 5, 5, 5, 5, 6, 6, 6, 6, 6, 6, 6, 6, 6, 6, 6, 6, 6, 6, 6, 6, 6, 6, 6, 6, 6, 6, 6, 6, 6, 6, 6, 6, 6, 6, 6, 6, 7, 7, 7, 7, 7, 7, 7, 7, 7, 7, 7, 7, 7, 7, 7, 7, 7, 7, 7, 7, 7, 7, 7, 7, 7, 7, 7, 7, 7, 7, 7, 7, 7, 7, 7, 7, 7, 7, 7, 7, 7, 7, 7, 7, 7, 7, 7, 7, 7, 7, 7, 7, 7, 7, 7, 7, 7, 7, 7, 7, 7, 7, 7, 7, 8, 8, 8, 8, 8, 8, 8, 8, 8, 8, 8, 8, 8, 8, 8, 8, 8, 8, 8, 8, 8, 8, 8, 8, 8, 8, 8, 8, 8, 8, 8, 8, 8, 8, 8, 8, 8, 8, 8, 8, 8, 8, 8, 8, 8, 8, 8, 8, 8, 8, 8, 8, 8, 8, 8, 8, 8, 8, 8, 8, 8, 8, 8, 8, 8, 8, 8, 8, 8, 8, 8, 8, 8, 8, 8, 8, 8, 8, 8, 8, 8, 8, 8, 8, 8, 8, 8, 8, 8, 8, 8, 8, 8, 8, 8, 8, 8, 8, 8, 8, 8, 8, 8, 8, 8, 8, 8, 8, 8, 8, 8, 8, 8, 8, 8, 8, 8, 8, 8, 8, 8, 8, 8, 8, 8, 8, 8, 8]⟩
def k_k : ByteArray := ⟨#[107]⟩
def k_i : ByteArray := ⟨#[105]⟩
def k_x : ByteArray := ⟨#[120]⟩
def tumbmake_Below (p_x : Int) (p_n : Int) : Option Int :=
  if decide (p_n < 1) then
  some 0
  else
  Chk (!decide (p_n = 0)) (
  Join (fun (x1 : Int) =>
  some x1) (fun j1 =>
  if decide ((Int.tmod p_x p_n) < 0) then
  j1 (W ((Int.tmod p_x p_n) + p_n))
  else
  j1 (Int.tmod p_x p_n)))
def Stream_Next (p_s_L : List Int) (p_s_at : Int) (p_n : Int) : Option (Int × Int) :=
  if decide ((p_s_L.length : Int) = 0) then
  Option.bind (tumbmake_Below (W ((W (p_s_at + 1)) * 7919)) p_n) (fun r1 =>
  some (r1, W (p_s_at + 1)))
  else
  Chk (!decide ((p_s_L.length : Int) = 0)) (
  Chk (!decide ((p_s_L.length : Int) = 0)) (
  Chk (inB (Int.tmod (W ((W (p_s_at + 1)) - 1)) (p_s_L.length : Int)) p_s_L.length) (
  Option.bind (tumbmake_Below (nth p_s_L (Int.tmod (W ((W (p_s_at + 1)) - 1)) (p_s_L.length : Int))) 1073741824) (fun r2 =>
  Option.bind (tumbmake_Below (W (r2 + (W ((W (Int.tdiv (W ((W (p_s_at + 1)) - 1)) (p_s_L.length : Int))) * (W (7919 + (Int.tmod (W ((W (p_s_at + 1)) - 1)) (p_s_L.length : Int)))))))) p_n) (fun r3 =>
  some (r3, W (p_s_at + 1)))))))
def Stream_Flip (p_s_L : List Int) (p_s_at : Int) (p_n : Int) : Option (Bool × Int) :=
  Option.bind (Stream_Next p_s_L p_s_at p_n) (fun r1 =>
  some (decide (r1.1 = 0), r1.2))
def Stream_Pick (p_s_L : List Int) (p_s_at : Int) (p_l : List Int) : Option (Int × Int) :=
  Option.bind (Stream_Next p_s_L p_s_at (p_l.length : Int)) (fun r1 =>
  Chk (inB r1.1 p_l.length) (
  some ((nth p_l r1.1), r1.2)))
def Stream_Some (p_s_L : List Int) (p_s_at : Int) (p_l : List ByteArray) : Option (ByteArray × Int) :=
  Option.bind (Stream_Next p_s_L p_s_at (p_l.length : Int)) (fun r1 =>
  Chk (inB r1.1 p_l.length) (
  some ((nth p_l r1.1), r1.2)))
def Stream_Range (p_s_L : List Int) (p_s_at : Int) (p_low : Int) (p_high : Int) : Option (Int × Int) :=
  if decide (p_high < p_low) then
  some (p_low, p_s_at)
  else
  Option.bind (Stream_Next p_s_L p_s_at (W ((W (p_high - p_low)) + 1))) (fun r1 =>
  some (W (p_low + r1.1), r1.2))
def Stream_Odd (p_s_L : List Int) (p_s_at : Int) (p_low : Int) (p_high : Int) : Option (Int × Int) :=
  Option.bind (Stream_Flip p_s_L p_s_at 12) (fun r1 =>
  if r1.1 then
  Option.bind (Stream_Pick p_s_L r1.2 [W (p_low - 1), W (p_high + 1), p_low, p_high, (-1099511627776), 1099511627776]) (fun r2 =>
  some (r2.1, r2.2))
  else
  Option.bind (Stream_Range p_s_L r1.2 p_low p_high) (fun r3 =>
  some (r3.1, r3.2)))
def Stream_Legs_l2 (p_s_L : List Int) (j3 : (List Int) → Int → Option ((List GLeg) × Int)) : Nat → (List Int) → Int → Int → Option ((List GLeg) × Int)
  | 0, _, _, _ => none
  | m1 + 1, x5, x6, x7 => if decide (x7 < 4) then
  Option.bind (Stream_Pick p_s_L x6 [0, 10, 11, 12, 12, 13, 15]) (fun r2 =>
  Chk (room x5.length) (
  Stream_Legs_l2 p_s_L j3 m1 (x5 ++ [r2.1]) r2.2 (W (x7 + 1))))
  else
  j3 x5 x6
def Stream_Legs_l1 (p_s_L : List Int) (j1 : (List GLeg) → Int → Option ((List GLeg) × Int)) : List ByteArray → Nat → (List GLeg) → Int → Option ((List GLeg) × Int)
  | [], _, x1, x2 => j1 x1 x2
  | y1 :: ys1, i1, x1, x2 => Join (fun (x3 : List GLeg) (x4 : Int) =>
  Stream_Legs_l1 p_s_L j1 ys1 (i1 + 1) x3 x4) (fun j2 =>
  Option.bind (Stream_Flip p_s_L x2 6) (fun r1 =>
  if r1.1 then
  j2 x1 r1.2
  else
  Join (fun (x5 : List Int) (x6 : Int) =>
  Option.bind (Stream_Flip p_s_L x6 60) (fun r3 =>
  Join (fun (x8 : List Int) (x9 : ByteArray) (x10 : Int) =>
  Chk (room x1.length) (
  j2 (x1 ++ [(GLeg.mk x9 x8)]) x10)) (fun j4 =>
  if r3.1 then
  Option.bind (Stream_Some p_s_L r3.2 [y1, k_empty, k_aa]) (fun r4 =>
  Option.bind (Stream_Range p_s_L r4.2 3 4) (fun r5 =>
  Chk (cutB 0 r5.1 x5.length) (
  Option.bind (Stream_Odd p_s_L r5.2 0 20) (fun r6 =>
  Chk (inB 0 (cut x5 (0 : Int) r5.1).length) (
  j4 ((cut x5 (0 : Int) r5.1).set ((0 : Int).toNat) r6.1) r4.1 r6.2)))))
  else
  j4 x5 y1 r3.2))) (fun j3 =>
  Stream_Legs_l2 p_s_L j3 6 ([] : List Int) r1.2 0)))
def Stream_Legs (p_s_L : List Int) (p_s_at : Int) : Option ((List GLeg) × Int) :=
  Join (fun (x1 : List GLeg) (x2 : Int) =>
  some (x1, x2)) (fun j1 =>
  Stream_Legs_l1 p_s_L j1 ([k_aa, k_bb, k_cc, k_xa, k_xb, k_xc] : List ByteArray) 0 ([] : List GLeg) p_s_at)
def tumbref2_in (p_n : Int) (p_low : Int) (p_high : Int) : Bool :=
  ((decide (p_low ≤ p_n)) && (decide (p_n ≤ p_high)))
def strings_IndexByte (s : ByteArray) (c : Int) : Int := Lib.indexByte s.data.toList c.toNat.toUInt8
def tumbref2_only_l1 (p_s : ByteArray) (p_some : ByteArray) (j1 : Option Bool) : Nat → Int → Option Bool
  | 0, _ => none
  | m1 + 1, x1 => if decide (x1 < (p_s.size : Int)) then
  Chk (inB x1 p_s.size) (
  if decide ((strings_IndexByte p_some (sbyte p_s x1)) < 0) then
  some false
  else
  tumbref2_only_l1 p_s p_some j1 m1 (W (x1 + 1)))
  else
  j1
def tumbref2_only (p_s : ByteArray) (p_some : ByteArray) : Option Bool :=
  Join (some true) (fun j1 =>
  tumbref2_only_l1 p_s p_some j1 (((p_s.size : Int) - 0).toNat + 2) 0)
def tumbref2_Key (p_s : ByteArray) : Option Bool :=
  Join (fun (c1 : Bool) =>
  Join (fun (c2 : Bool) =>
  some c2) (fun j2 =>
  if c1 then Option.bind (tumbref2_only p_s k_abcdefghijkl_h0e2e2c) (fun r2 =>
  j2 (c1 && r2)) else j2 (c1 && true))) (fun j1 =>
  if (tumbref2_in (p_s.size : Int) 1 40) then Chk (cutB 0 1 p_s.size) (
  Option.bind (tumbref2_only (scut p_s 0 1) k_abcdefghijklmnopqrstuvwxyz) (fun r1 =>
  j1 ((tumbref2_in (p_s.size : Int) 1 40) && r1))) else j1 ((tumbref2_in (p_s.size : Int) 1 40) && true))
def tumbref2_LegsFault_c1 (p_t : Int) : Bool :=
  !(tumbref2_in p_t 0 360000)
def slices_IndexFunc_int_tumbref2_LegsFault_c1_l1 (j1 : Int) : List Int → Nat → Int
  | [], _ => j1
  | y1 :: ys1, i1 => if (tumbref2_LegsFault_c1 y1) then
  (i1 : Int)
  else
  slices_IndexFunc_int_tumbref2_LegsFault_c1_l1 j1 ys1 (i1 + 1)
def slices_IndexFunc_int_tumbref2_LegsFault_c1 (p_s : List Int) : Int :=
  Join ((-1)) (fun j1 =>
  slices_IndexFunc_int_tumbref2_LegsFault_c1_l1 j1 p_s 0)
def slices_ContainsFunc_int_tumbref2_LegsFault_c1 (p_s : List Int) : Bool :=
  decide (0 ≤ (slices_IndexFunc_int_tumbref2_LegsFault_c1 p_s))
def tumbref2_LegsFault_l1 (j1 : Option Int) : List GLeg → Nat → ByteArray → Option Int
  | [], _, _ => j1
  | y1 :: ys1, i1, x1 => Option.bind (tumbref2_Key y1.Who) (fun r2 =>
  if !r2 then
  some 5
  else
  if (Sless y1.Who x1 || decide (y1.Who = x1)) then
  some 7
  else
  if !decide ((y1.Times.length : Int) = 4) then
  some 3
  else
  if (slices_ContainsFunc_int_tumbref2_LegsFault_c1 y1.Times) then
  some 1
  else
  tumbref2_LegsFault_l1 j1 ys1 (i1 + 1) y1.Who)
def tumbref2_LegsFault (p_l : List GLeg) : Option Int :=
  if decide (12 < (p_l.length : Int)) then
  some 2
  else
  Join (some 0) (fun j1 =>
  tumbref2_LegsFault_l1 j1 p_l 0 k_empty)
def words_Within (p_n : Int) (p_low : Int) (p_high : Int) : Bool :=
  ((decide (p_low ≤ p_n)) && (decide (p_n ≤ p_high)))
def swimmer_leap (p_year : Int) : Bool :=
  ((decide ((Int.tmod p_year 4) = 0)) && ((!decide ((Int.tmod p_year 100) = 0)) || (decide ((Int.tmod p_year 400) = 0))))
def swimmer_long (p_year : Int) (p_month : Int) : Int :=
  if decide (p_month = 2) then
  if (swimmer_leap p_year) then
  29
  else
  28
  else
  Join (fun (x1 : Bool) =>
  if x1 then
  30
  else
  31) (fun j1 =>
  if decide (p_month = 4) then
  j1 (decide (p_month = 4))
  else
  Join (fun (x2 : Bool) =>
  j1 x2) (fun j2 =>
  if decide (p_month = 6) then
  j2 (decide (p_month = 6))
  else
  Join (fun (x3 : Bool) =>
  j2 x3) (fun j3 =>
  if decide (p_month = 9) then
  j3 (decide (p_month = 9))
  else
  j3 (decide (p_month = 11)))))
def swimmer_yearLong (p_year : Int) : Int :=
  if (swimmer_leap p_year) then
  366
  else
  365
def swimmer_isDay (p_n : Int) : Bool :=
  (words_Within p_n (-40000) 4000)
def swimmer_DayOf_l1 (p_d : GDate) (j2 : Int → Option (Int × Int)) : Nat → Int → Int → Option (Int × Int)
  | 0, _, _ => none
  | m1 + 1, x2, x3 => if decide (x3 < p_d.Month) then
  swimmer_DayOf_l1 p_d j2 m1 (W (x2 + (swimmer_long p_d.Year x3))) (W (x3 + 1))
  else
  j2 x2
def swimmer_DayOf_l2 (p_d : GDate) (j3 : Int → Option (Int × Int)) : Nat → Int → Int → Option (Int × Int)
  | 0, _, _ => none
  | m2 + 1, x4, x5 => if decide (x5 < p_d.Year) then
  swimmer_DayOf_l2 p_d j3 m2 (W (x4 + (swimmer_yearLong x5))) (W (x5 + 1))
  else
  j3 x4
def swimmer_DayOf_l3 (j4 : Int → Option (Int × Int)) : Nat → Int → Int → Option (Int × Int)
  | 0, _, _ => none
  | m3 + 1, x6, x7 => if decide (x7 < 2024) then
  swimmer_DayOf_l3 j4 m3 (W (x6 - (swimmer_yearLong x7))) (W (x7 + 1))
  else
  j4 x6
def swimmer_DayOf (p_d : GDate) : Option (Int × Int) :=
  Join (fun (x1 : Bool) =>
  if x1 then
  some (0, 1)
  else
  Join (fun (x2 : Int) =>
  Join (fun (x4 : Int) =>
  Join (fun (x6 : Int) =>
  if !(swimmer_isDay x6) then
  some (0, 1)
  else
  some (x6, 0)) (fun j4 =>
  swimmer_DayOf_l3 j4 ((2024 - p_d.Year).toNat + 2) x4 p_d.Year)) (fun j3 =>
  swimmer_DayOf_l2 p_d j3 ((p_d.Year - 2024).toNat + 2) x2 2024)) (fun j2 =>
  swimmer_DayOf_l1 p_d j2 ((p_d.Month - 1).toNat + 2) (W (p_d.Day - 1)) 1)) (fun j1 =>
  if !(words_Within p_d.Year 1900 2100) then
  if true then
  j1 true
  else
  j1 (!(words_Within p_d.Day 1 (swimmer_long p_d.Year p_d.Month)))
  else
  if !(words_Within p_d.Month 1 12) then
  j1 true
  else
  j1 (!(words_Within p_d.Day 1 (swimmer_long p_d.Year p_d.Month))))
def strings_Trim (s c : ByteArray) : Option ByteArray :=
  Chk (decide (s.size ≤ 9223372036854775807)) (Chk (decide (c.size < 4294967281)) (Chk (c.data.toList.all fun b => decide (b.toNat < 128)) (some ⟨(Lib.trimS s.data.toList c.data.toList).toArray⟩)))
def words_IsKey (p_s : ByteArray) : Option Bool :=
  Join (fun (c1 : Bool) =>
  Join (fun (c2 : Bool) =>
  Join (fun (c3 : Bool) =>
  some c3) (fun j3 =>
  if c2 then Option.bind (strings_Trim p_s k_abcdefghijkl_h0e2e2c) (fun r1 =>
  j3 (c2 && (decide (r1 = k_empty)))) else j3 (c2 && true))) (fun j2 =>
  if c1 then Chk (inB 0 p_s.size) (
  j2 (c1 && (decide ((sbyte p_s 0) ≤ 122)))) else j2 (c1 && true))) (fun j1 =>
  if ((decide (1 ≤ (p_s.size : Int))) && (decide ((p_s.size : Int) ≤ 40))) then Chk (inB 0 p_s.size) (
  j1 (((decide (1 ≤ (p_s.size : Int))) && (decide ((p_s.size : Int) ≤ 40))) && (decide (97 ≤ (sbyte p_s 0))))) else j1 (((decide (1 ≤ (p_s.size : Int))) && (decide ((p_s.size : Int) ≤ 40))) && true))
def session_CheckItems_l1 (j1 : (List (ByteArray × Bool)) → Option Int) : List GItem → Nat → (List (ByteArray × Bool)) → Option Int
  | [], _, x1 => j1 x1
  | y1 :: ys1, i1, x1 => Option.bind (words_IsKey y1.Key) (fun r1 =>
  if !r1 then
  some 5
  else
  if mgetD x1 y1.Key false then
  some 6
  else
  if ((((!(words_Within y1.Heats 1 60)) || (!(words_Within y1.Long 1 3600000))) || (!(words_Within y1.Gap 0 3600000))) || (!(words_Within y1.Break 0 3600000))) then
  some 1
  else
  session_CheckItems_l1 j1 ys1 (i1 + 1) (mput x1 y1.Key true))
def session_CheckItems (p_l : List GItem) : Option Int :=
  if decide (100 < (p_l.length : Int)) then
  some 2
  else
  Join (fun (x1 : List (ByteArray × Bool)) =>
  some 0) (fun j1 =>
  session_CheckItems_l1 j1 p_l 0 ([] : List (ByteArray × Bool)))
def words_IsMoment (p_n : Int) : Bool :=
  ((decide (0 ≤ p_n)) && (decide (p_n < 345686400000)))
def session_timetable_l2 (y1 : GItem) (j2 : (List GSlot) → Int → Option (List GSlot)) : Nat → (List GSlot) → Int → Int → Option (List GSlot)
  | 0, _, _, _ => none
  | m1 + 1, x3, x4, x5 => if decide (x5 ≤ y1.Heats) then
  Join (fun (x6 : List GSlot) (x7 : Int) =>
  session_timetable_l2 y1 j2 m1 x6 x7 (W (x5 + 1))) (fun j3 =>
  Chk (room x3.length) (
  Join (fun (x8 : Int) =>
  j3 (x3 ++ [(GSlot.mk y1.Key x5 (GWindow.mk x4 (W (x4 + y1.Long))))]) x8) (fun j4 =>
  if decide (x5 < y1.Heats) then
  j4 (W ((W (x4 + y1.Long)) + y1.Gap))
  else
  j4 (W (x4 + y1.Long)))))
  else
  j2 x3 x4
def session_timetable_l1 (j1 : (List GSlot) → Option (List GSlot)) : List GItem → Nat → (List GSlot) → Int → Option (List GSlot)
  | [], _, x1, _ => j1 x1
  | y1 :: ys1, i1, x1, x2 => Join (fun (x3 : List GSlot) (x4 : Int) =>
  session_timetable_l1 j1 ys1 (i1 + 1) x3 (W (x4 + y1.Break))) (fun j2 =>
  session_timetable_l2 y1 j2 ((y1.Heats - 1).toNat + 2) x1 x2 1)
def session_timetable (p_l : List GItem) (p_from : Int) : Option (List GSlot) :=
  Join (fun (x1 : List GSlot) =>
  some x1) (fun j1 =>
  session_timetable_l1 j1 p_l 0 ([] : List GSlot) p_from)
def session_end (p_l : List GSlot) (p_from : Int) : Option Int :=
  if decide ((p_l.length : Int) = 0) then
  some p_from
  else
  Chk (inB (W ((p_l.length : Int) - 1)) p_l.length) (
  some (((nth p_l (W ((p_l.length : Int) - 1))).Time).To))
def session_begin (p_l : List GItem) (p_from : Int) : Option ((List GSlot) × Int) :=
  if !(words_IsMoment p_from) then
  some (([] : List GSlot), 1)
  else
  Option.bind (session_timetable p_l p_from) (fun r1 =>
  Option.bind (session_end r1 p_from) (fun r2 =>
  if decide (345686400000 < r2) then
  some (([] : List GSlot), 1)
  else
  some (r1, 0)))
def session_Timetable (p_l : List GItem) (p_from : Int) : Option ((List GSlot) × Int) :=
  Option.bind (session_CheckItems p_l) (fun r1 =>
  if !decide (r1 = 0) then
  some (([] : List GSlot), r1)
  else
  Option.bind (session_begin p_l p_from) (fun r2 =>
  some (r2.1, r2.2)))
def session_Ends (p_l : List GItem) (p_from : Int) : Option (Int × Int) :=
  Option.bind (session_Timetable p_l p_from) (fun r1 =>
  if !decide (r1.2 = 0) then
  some (0, r1.2)
  else
  Option.bind (session_end r1.1 p_from) (fun r2 =>
  some (r2, 0)))
def timing_IsTime (p_n : Int) : Bool :=
  (words_Within p_n 1 360000)
def points_CheckBase_l1 (p_l : List GBase) (j1 : Option Int) : List GBase → Nat → Option Int
  | [], _ => j1
  | y1 :: ys1, i1 => Option.bind (words_IsKey y1.Race) (fun r1 =>
  if !r1 then
  some 5
  else
  Join (fun (c1 : Bool) =>
  if c1 then
  some 7
  else
  if !(timing_IsTime y1.Time) then
  some 1
  else
  points_CheckBase_l1 p_l j1 ys1 (i1 + 1)) (fun j2 =>
  if (decide (0 < (i1 : Int))) then Chk (inB (W ((i1 : Int) - 1)) p_l.length) (
  j2 ((decide (0 < (i1 : Int))) && (Sless y1.Race ((nth p_l (W ((i1 : Int) - 1))).Race) || decide (y1.Race = ((nth p_l (W ((i1 : Int) - 1))).Race))))) else j2 ((decide (0 < (i1 : Int))) && true)))
def points_CheckBase (p_l : List GBase) : Option Int :=
  if decide (500 < (p_l.length : Int)) then
  some 2
  else
  Join (some 0) (fun j1 =>
  points_CheckBase_l1 p_l j1 p_l 0)
def points_baseOf_l1 (p_race : ByteArray) (j1 : Int) : List GBase → Nat → Int
  | [], _ => j1
  | y1 :: ys1, i1 => if decide (y1.Race = p_race) then
  y1.Time
  else
  points_baseOf_l1 p_race j1 ys1 (i1 + 1)
def points_baseOf (p_l : List GBase) (p_race : ByteArray) : Int :=
  Join (0) (fun j1 =>
  points_baseOf_l1 p_race j1 p_l 0)
def bits_Mul64 (p_x : Int) (p_y : Int) : (Int × Int) :=
  (IntKind.wrap .u64 ((IntKind.wrap .u64 ((IntKind.wrap .u64 ((bitShr .u64 p_x 32) * (bitShr .u64 p_y 32))) + (bitShr .u64 (IntKind.wrap .u64 ((IntKind.wrap .u64 ((bitShr .u64 p_x 32) * (bitAnd .u64 p_y 4294967295))) + (bitShr .u64 (IntKind.wrap .u64 ((bitAnd .u64 p_x 4294967295) * (bitAnd .u64 p_y 4294967295))) 32))) 32))) + (bitShr .u64 (IntKind.wrap .u64 ((bitAnd .u64 (IntKind.wrap .u64 ((IntKind.wrap .u64 ((bitShr .u64 p_x 32) * (bitAnd .u64 p_y 4294967295))) + (bitShr .u64 (IntKind.wrap .u64 ((bitAnd .u64 p_x 4294967295) * (bitAnd .u64 p_y 4294967295))) 32))) 4294967295) + (IntKind.wrap .u64 ((bitAnd .u64 p_x 4294967295) * (bitShr .u64 p_y 32))))) 32)), IntKind.wrap .u64 (p_x * p_y))
def bits_Len64 (p_x : Int) : Option Int :=
  Join (fun (x1 : Int) (x2 : Int) =>
  Join (fun (x3 : Int) (x4 : Int) =>
  Join (fun (x5 : Int) (x6 : Int) =>
  Chk (inB (IntKind.wrap .u8 x5) k__00_01_02_02_h633d86.size) (
  some (W (x6 + (W (sbyte k__00_01_02_02_h633d86 (IntKind.wrap .u8 x5))))))) (fun j3 =>
  if decide (256 ≤ x3) then
  j3 (bitShr .u64 x3 8) (W (x4 + 8))
  else
  j3 x3 x4)) (fun j2 =>
  if decide (65536 ≤ x1) then
  j2 (bitShr .u64 x1 16) (W (x2 + 16))
  else
  j2 x1 x2)) (fun j1 =>
  if decide (4294967296 ≤ p_x) then
  j1 (bitShr .u64 p_x 32) 32
  else
  j1 p_x 0)
def bits_LeadingZeros64 (p_x : Int) : Option Int :=
  Option.bind (bits_Len64 p_x) (fun r1 =>
  some (W (64 - r1)))
def bits_Div64_l1 (p_lo : Int) (r1 : Int) (p_y : Int) (j1 : Int → Option (Int × Int)) : Nat → Int → Int → Option (Int × Int)
  | 0, _, _ => none
  | m1 + 1, x1, x2 => if ((decide (4294967296 ≤ x1)) || (decide ((IntKind.wrap .u64 ((IntKind.wrap .u64 (4294967296 * x2)) + (bitShr .u64 (bitShl .u64 p_lo (IntKind.wrap .u64 r1)) 32))) < (IntKind.wrap .u64 (x1 * (bitAnd .u64 (bitShl .u64 p_y (IntKind.wrap .u64 r1)) 4294967295)))))) then
  if decide (4294967296 ≤ (IntKind.wrap .u64 (x2 + (bitShr .u64 (bitShl .u64 p_y (IntKind.wrap .u64 r1)) 32)))) then
  j1 (IntKind.wrap .u64 (x1 - 1))
  else
  bits_Div64_l1 p_lo r1 p_y j1 m1 (IntKind.wrap .u64 (x1 - 1)) (IntKind.wrap .u64 (x2 + (bitShr .u64 (bitShl .u64 p_y (IntKind.wrap .u64 r1)) 32)))
  else
  j1 x1
def bits_Div64_l2 (p_lo : Int) (r1 : Int) (p_y : Int) (j2 : Int → Option (Int × Int)) : Nat → Int → Int → Option (Int × Int)
  | 0, _, _ => none
  | m2 + 1, x3, x4 => if ((decide (4294967296 ≤ x4)) || (decide ((IntKind.wrap .u64 ((IntKind.wrap .u64 (4294967296 * x3)) + (bitAnd .u64 (bitShl .u64 p_lo (IntKind.wrap .u64 r1)) 4294967295))) < (IntKind.wrap .u64 (x4 * (bitAnd .u64 (bitShl .u64 p_y (IntKind.wrap .u64 r1)) 4294967295)))))) then
  if decide (4294967296 ≤ (IntKind.wrap .u64 (x3 + (bitShr .u64 (bitShl .u64 p_y (IntKind.wrap .u64 r1)) 32)))) then
  j2 (IntKind.wrap .u64 (x4 - 1))
  else
  bits_Div64_l2 p_lo r1 p_y j2 m2 (IntKind.wrap .u64 (x3 + (bitShr .u64 (bitShl .u64 p_y (IntKind.wrap .u64 r1)) 32))) (IntKind.wrap .u64 (x4 - 1))
  else
  j2 x4
def bits_Div64 (p_hi : Int) (p_lo : Int) (p_y : Int) : Option (Int × Int) :=
  if decide (p_y = 0) then
  none
  else
  if decide (p_y ≤ p_hi) then
  none
  else
  if decide (p_hi = 0) then
  Chk (!decide (p_y = 0)) (
  Chk (!decide (p_y = 0)) (
  some (IntKind.wrap .u64 (Int.tdiv p_lo p_y), Int.tmod p_lo p_y)))
  else
  Option.bind (bits_LeadingZeros64 p_y) (fun r1 =>
  Chk (decide (0 ≤ (IntKind.wrap .u64 r1))) (
  Chk (decide (0 ≤ (IntKind.wrap .u64 r1))) (
  Chk (decide (0 ≤ (IntKind.wrap .u64 (64 - (IntKind.wrap .u64 r1))))) (
  Chk (decide (0 ≤ (IntKind.wrap .u64 r1))) (
  Chk (!decide ((bitShr .u64 (bitShl .u64 p_y (IntKind.wrap .u64 r1)) 32) = 0)) (
  Join (fun (x1 : Int) =>
  Chk (!decide ((bitShr .u64 (bitShl .u64 p_y (IntKind.wrap .u64 r1)) 32) = 0)) (
  Join (fun (x4 : Int) =>
  Chk (decide (0 ≤ (IntKind.wrap .u64 r1))) (
  some (IntKind.wrap .u64 ((IntKind.wrap .u64 (x1 * 4294967296)) + x4), bitShr .u64 (IntKind.wrap .u64 ((IntKind.wrap .u64 ((IntKind.wrap .u64 ((IntKind.wrap .u64 ((IntKind.wrap .u64 ((IntKind.wrap .u64 ((bitOr .u64 (bitShl .u64 p_hi (IntKind.wrap .u64 r1)) (bitShr .u64 p_lo (IntKind.wrap .u64 (64 - (IntKind.wrap .u64 r1))))) * 4294967296)) + (bitShr .u64 (bitShl .u64 p_lo (IntKind.wrap .u64 r1)) 32))) - (IntKind.wrap .u64 (x1 * (bitShl .u64 p_y (IntKind.wrap .u64 r1)))))) * 4294967296)) + (bitAnd .u64 (bitShl .u64 p_lo (IntKind.wrap .u64 r1)) 4294967295))) - (IntKind.wrap .u64 (x4 * (bitShl .u64 p_y (IntKind.wrap .u64 r1)))))) (IntKind.wrap .u64 r1)))) (fun j2 =>
  bits_Div64_l2 p_lo r1 p_y j2 (((IntKind.wrap .u64 (Int.tdiv (IntKind.wrap .u64 ((IntKind.wrap .u64 ((IntKind.wrap .u64 ((bitOr .u64 (bitShl .u64 p_hi (IntKind.wrap .u64 r1)) (bitShr .u64 p_lo (IntKind.wrap .u64 (64 - (IntKind.wrap .u64 r1))))) * 4294967296)) + (bitShr .u64 (bitShl .u64 p_lo (IntKind.wrap .u64 r1)) 32))) - (IntKind.wrap .u64 (x1 * (bitShl .u64 p_y (IntKind.wrap .u64 r1)))))) (bitShr .u64 (bitShl .u64 p_y (IntKind.wrap .u64 r1)) 32))) - 4294967296).toNat + 2) (IntKind.wrap .u64 ((IntKind.wrap .u64 ((IntKind.wrap .u64 ((IntKind.wrap .u64 ((bitOr .u64 (bitShl .u64 p_hi (IntKind.wrap .u64 r1)) (bitShr .u64 p_lo (IntKind.wrap .u64 (64 - (IntKind.wrap .u64 r1))))) * 4294967296)) + (bitShr .u64 (bitShl .u64 p_lo (IntKind.wrap .u64 r1)) 32))) - (IntKind.wrap .u64 (x1 * (bitShl .u64 p_y (IntKind.wrap .u64 r1)))))) - (IntKind.wrap .u64 ((IntKind.wrap .u64 (Int.tdiv (IntKind.wrap .u64 ((IntKind.wrap .u64 ((IntKind.wrap .u64 ((bitOr .u64 (bitShl .u64 p_hi (IntKind.wrap .u64 r1)) (bitShr .u64 p_lo (IntKind.wrap .u64 (64 - (IntKind.wrap .u64 r1))))) * 4294967296)) + (bitShr .u64 (bitShl .u64 p_lo (IntKind.wrap .u64 r1)) 32))) - (IntKind.wrap .u64 (x1 * (bitShl .u64 p_y (IntKind.wrap .u64 r1)))))) (bitShr .u64 (bitShl .u64 p_y (IntKind.wrap .u64 r1)) 32))) * (bitShr .u64 (bitShl .u64 p_y (IntKind.wrap .u64 r1)) 32))))) (IntKind.wrap .u64 (Int.tdiv (IntKind.wrap .u64 ((IntKind.wrap .u64 ((IntKind.wrap .u64 ((bitOr .u64 (bitShl .u64 p_hi (IntKind.wrap .u64 r1)) (bitShr .u64 p_lo (IntKind.wrap .u64 (64 - (IntKind.wrap .u64 r1))))) * 4294967296)) + (bitShr .u64 (bitShl .u64 p_lo (IntKind.wrap .u64 r1)) 32))) - (IntKind.wrap .u64 (x1 * (bitShl .u64 p_y (IntKind.wrap .u64 r1)))))) (bitShr .u64 (bitShl .u64 p_y (IntKind.wrap .u64 r1)) 32)))))) (fun j1 =>
  bits_Div64_l1 p_lo r1 p_y j1 (((IntKind.wrap .u64 (Int.tdiv (bitOr .u64 (bitShl .u64 p_hi (IntKind.wrap .u64 r1)) (bitShr .u64 p_lo (IntKind.wrap .u64 (64 - (IntKind.wrap .u64 r1))))) (bitShr .u64 (bitShl .u64 p_y (IntKind.wrap .u64 r1)) 32))) - 4294967296).toNat + 2) (IntKind.wrap .u64 (Int.tdiv (bitOr .u64 (bitShl .u64 p_hi (IntKind.wrap .u64 r1)) (bitShr .u64 p_lo (IntKind.wrap .u64 (64 - (IntKind.wrap .u64 r1))))) (bitShr .u64 (bitShl .u64 p_y (IntKind.wrap .u64 r1)) 32))) (IntKind.wrap .u64 ((bitOr .u64 (bitShl .u64 p_hi (IntKind.wrap .u64 r1)) (bitShr .u64 p_lo (IntKind.wrap .u64 (64 - (IntKind.wrap .u64 r1))))) - (IntKind.wrap .u64 ((IntKind.wrap .u64 (Int.tdiv (bitOr .u64 (bitShl .u64 p_hi (IntKind.wrap .u64 r1)) (bitShr .u64 p_lo (IntKind.wrap .u64 (64 - (IntKind.wrap .u64 r1))))) (bitShr .u64 (bitShl .u64 p_y (IntKind.wrap .u64 r1)) 32))) * (bitShr .u64 (bitShl .u64 p_y (IntKind.wrap .u64 r1)) 32))))))))))))
def points_byTime (p_base : Int) (p_time : Int) : Option Int :=
  if decide ((IntKind.wrap .u64 ((IntKind.wrap .u64 ((IntKind.wrap .u64 p_time) * (IntKind.wrap .u64 p_time))) * (IntKind.wrap .u64 p_time))) ≤ ((bits_Mul64 (IntKind.wrap .u64 ((IntKind.wrap .u64 ((IntKind.wrap .u64 p_base) * (IntKind.wrap .u64 p_base))) * (IntKind.wrap .u64 p_base))) 1000).1)) then
  some 1000000000
  else
  Option.bind (bits_Div64 ((bits_Mul64 (IntKind.wrap .u64 ((IntKind.wrap .u64 ((IntKind.wrap .u64 p_base) * (IntKind.wrap .u64 p_base))) * (IntKind.wrap .u64 p_base))) 1000).1) ((bits_Mul64 (IntKind.wrap .u64 ((IntKind.wrap .u64 ((IntKind.wrap .u64 p_base) * (IntKind.wrap .u64 p_base))) * (IntKind.wrap .u64 p_base))) 1000).2) (IntKind.wrap .u64 ((IntKind.wrap .u64 ((IntKind.wrap .u64 p_time) * (IntKind.wrap .u64 p_time))) * (IntKind.wrap .u64 p_time)))) (fun r1 =>
  some (W (imin r1.1 1000000000)))
def points_ByTime (p_l : List GBase) (p_race : ByteArray) (p_time : Int) : Option (Int × Int) :=
  Option.bind (points_CheckBase p_l) (fun r1 =>
  if !decide (r1 = 0) then
  some (0, r1)
  else
  if decide ((points_baseOf p_l p_race) = 0) then
  some (0, 8)
  else
  if !(timing_IsTime p_time) then
  some (0, 1)
  else
  Option.bind (points_byTime (points_baseOf p_l p_race) p_time) (fun r2 =>
  some (r2, 0)))
def record_CheckKinds_l2 (y1 : GKind) (j4 : Option Int) : List ByteArray → Nat → Option Int
  | [], _ => j4
  | y2 :: ys2, i2 => Option.bind (words_IsKey y2) (fun r5 =>
  if !r5 then
  some 5
  else
  Join (fun (c3 : Bool) =>
  if c3 then
  some 7
  else
  record_CheckKinds_l2 y1 j4 ys2 (i2 + 1)) (fun j5 =>
  if (decide (0 < (i2 : Int))) then Chk (inB (W ((i2 : Int) - 1)) y1.Clubs.length) (
  j5 ((decide (0 < (i2 : Int))) && (Sless y2 (nth y1.Clubs (W ((i2 : Int) - 1))) || decide (y2 = (nth y1.Clubs (W ((i2 : Int) - 1))))))) else j5 ((decide (0 < (i2 : Int))) && true)))
def record_CheckKinds_l1 (p_l : List GKind) (j1 : Option Int) : List GKind → Nat → Option Int
  | [], _ => j1
  | y1 :: ys1, i1 => Option.bind (words_IsKey y1.Key) (fun r2 =>
  Join (fun (c1 : Bool) =>
  if c1 then
  some 5
  else
  Join (fun (c2 : Bool) =>
  if c2 then
  some 7
  else
  if decide (100 < (y1.Clubs.length : Int)) then
  some 2
  else
  Join (if (((decide (y1.Young < 0)) || (decide (y1.Old < y1.Young))) || (decide (150 < y1.Old))) then
  some 1
  else
  record_CheckKinds_l1 p_l j1 ys1 (i1 + 1)) (fun j4 =>
  record_CheckKinds_l2 y1 j4 y1.Clubs 0)) (fun j3 =>
  if (decide (0 < (i1 : Int))) then Chk (inB (W ((i1 : Int) - 1)) p_l.length) (
  j3 ((decide (0 < (i1 : Int))) && (Sless y1.Key ((nth p_l (W ((i1 : Int) - 1))).Key) || decide (y1.Key = ((nth p_l (W ((i1 : Int) - 1))).Key))))) else j3 ((decide (0 < (i1 : Int))) && true))) (fun j2 =>
  if (!r2) then j2 ((!r2) || true) else Option.bind (words_IsKey y1.Race) (fun r3 =>
  j2 ((!r2) || (!r3)))))
def record_CheckKinds (p_l : List GKind) : Option Int :=
  if decide (50 < (p_l.length : Int)) then
  some 2
  else
  Join (some 0) (fun j1 =>
  record_CheckKinds_l1 p_l j1 p_l 0)
def record_checkStep (p_x : GStep) : Option Int :=
  Join (some 0) (fun j1 =>
  if !(words_IsMoment p_x.At) then
  some 1
  else
  if !(words_Within p_x.Kind 1 3) then
  some 4
  else
  Option.bind (words_IsKey p_x.Id) (fun r1 =>
  if !r1 then
  some 5
  else
  Join (j1) (fun j2 =>
  if !decide (p_x.Kind = 1) then
  if !decide (p_x = (GStep.mk p_x.At p_x.Kind p_x.Id k_empty k_empty k_empty 0 0)) then
  some 3
  else
  j2
  else
  Option.bind (words_IsKey p_x.Who) (fun r2 =>
  Join (fun (c1 : Bool) =>
  Join (fun (c2 : Bool) =>
  if c2 then
  some 5
  else
  if ((!(words_Within p_x.Age 0 150)) || (!(timing_IsTime p_x.Time))) then
  some 1
  else
  j2) (fun j4 =>
  if c1 then j4 (c1 || true) else Join (fun (c3 : Bool) =>
  j4 (c1 || c3)) (fun j5 =>
  if (!decide (p_x.Club = k_empty)) then Option.bind (words_IsKey p_x.Club) (fun r4 =>
  j5 ((!decide (p_x.Club = k_empty)) && (!r4))) else j5 ((!decide (p_x.Club = k_empty)) && true)))) (fun j3 =>
  if (!r2) then j3 ((!r2) || true) else Option.bind (words_IsKey p_x.Race) (fun r3 =>
  j3 ((!r2) || (!r3))))))))
def record_checkSwum (p_s : GStep) : Option Int :=
  Option.bind (record_checkStep p_s) (fun r1 =>
  if !decide (r1 = 0) then
  some r1
  else
  if !decide (p_s.Kind = 1) then
  some 4
  else
  some 0)
def slices_Index_string_l1 (p_v : ByteArray) (j1 : Int) : List ByteArray → Nat → Int
  | [], _ => j1
  | y1 :: ys1, i1 => if decide (p_v = y1) then
  (i1 : Int)
  else
  slices_Index_string_l1 p_v j1 ys1 (i1 + 1)
def slices_Index_string (p_s : List ByteArray) (p_v : ByteArray) : Int :=
  Join ((-1)) (fun j1 =>
  slices_Index_string_l1 p_v j1 p_s 0)
def slices_Contains_string (p_s : List ByteArray) (p_v : ByteArray) : Bool :=
  decide (0 ≤ (slices_Index_string p_s p_v))
def record_isFor (p_k : GKind) (p_s : GStep) : Bool :=
  (((decide (p_s.Race = p_k.Race)) && ((decide ((p_k.Clubs.length : Int) = 0)) || (slices_Contains_string p_k.Clubs p_s.Club))) && (words_Within p_s.Age p_k.Young p_k.Old))
def record_For_l1 (p_s : GStep) (j1 : (List ByteArray) → Option ((List ByteArray) × Int)) : List GKind → Nat → (List ByteArray) → Option ((List ByteArray) × Int)
  | [], _, x1 => j1 x1
  | y1 :: ys1, i1, x1 => Join (fun (x2 : List ByteArray) =>
  record_For_l1 p_s j1 ys1 (i1 + 1) x2) (fun j2 =>
  Join (fun (x3 : List ByteArray) =>
  j2 x3) (fun j3 =>
  if (record_isFor y1 p_s) then
  Chk (room x1.length) (
  j3 (x1 ++ [y1.Key]))
  else
  j3 x1))
def record_For (p_l : List GKind) (p_s : GStep) : Option ((List ByteArray) × Int) :=
  Option.bind (record_CheckKinds p_l) (fun r1 =>
  if !decide (r1 = 0) then
  some (([] : List ByteArray), r1)
  else
  Option.bind (record_checkSwum p_s) (fun r2 =>
  if !decide (r2 = 0) then
  some (([] : List ByteArray), r2)
  else
  Join (fun (x1 : List ByteArray) =>
  some (x1, 0)) (fun j1 =>
  record_For_l1 p_s j1 p_l 0 ([] : List ByteArray))))
def tumbkeep2_errs_l1 (j1 : Int) : List Int → Nat → Int
  | [], _ => j1
  | y1 :: ys1, i1 => if !decide (y1 = 0) then
  y1
  else
  tumbkeep2_errs_l1 j1 ys1 (i1 + 1)
def tumbkeep2_errs (p_l : List Int) : Int :=
  Join (0) (fun j1 =>
  tumbkeep2_errs_l1 j1 p_l 0)
def tumbkeep2_ready : Option Bool :=
  Option.bind (swimmer_DayOf (GDate.mk 2024 3 1)) (fun r1 =>
  Option.bind (session_Ends [(GItem.mk k_a 2 10 5 0)] 0) (fun r2 =>
  Option.bind (points_ByTime [(GBase.mk k_r 3000)] k_r 6000) (fun r3 =>
  Option.bind (record_For ([(GKind.mk k_k k_r ([] : List ByteArray) 0 9)] : List GKind) (GStep.mk 0 1 k_i k_a k_empty k_r 0 5)) (fun r4 =>
  some (((((decide ((tumbkeep2_errs [r1.2, r2.2, r3.2, r4.2]) = 0)) && (decide (r1.1 = 60))) && (decide (r2.1 = 25))) && (decide (r3.1 = 125))) && (decide ((r4.1.length : Int) = 1)))))))
def swimmer_CheckLegs_l2 (j3 : Option Int) : List Int → Nat → Option Int
  | [], _ => j3
  | y2 :: ys2, i2 => if !(words_Within y2 0 360000) then
  some 1
  else
  swimmer_CheckLegs_l2 j3 ys2 (i2 + 1)
def swimmer_CheckLegs_l1 (p_l : List GLeg) (j1 : Option Int) : List GLeg → Nat → Option Int
  | [], _ => j1
  | y1 :: ys1, i1 => Option.bind (words_IsKey y1.Who) (fun r2 =>
  if !r2 then
  some 5
  else
  Join (fun (c1 : Bool) =>
  if c1 then
  some 7
  else
  if !decide ((y1.Times.length : Int) = 4) then
  some 3
  else
  Join (swimmer_CheckLegs_l1 p_l j1 ys1 (i1 + 1)) (fun j3 =>
  swimmer_CheckLegs_l2 j3 y1.Times 0)) (fun j2 =>
  if (decide (0 < (i1 : Int))) then Chk (inB (W ((i1 : Int) - 1)) p_l.length) (
  j2 ((decide (0 < (i1 : Int))) && (Sless y1.Who ((nth p_l (W ((i1 : Int) - 1))).Who) || decide (y1.Who = ((nth p_l (W ((i1 : Int) - 1))).Who))))) else j2 ((decide (0 < (i1 : Int))) && true)))
def swimmer_CheckLegs (p_l : List GLeg) : Option Int :=
  if decide (12 < (p_l.length : Int)) then
  some 2
  else
  Join (some 0) (fun j1 =>
  swimmer_CheckLegs_l1 p_l j1 p_l 0)
def slices_Clone_string (p_s : List ByteArray) : Option (List ByteArray) :=
  Chk (decide ((([] : List ByteArray) : List ByteArray).length + p_s.length < 1073741824)) (
  some ((([] : List ByteArray) : List ByteArray) ++ p_s))
def stringslite_HasPrefix (p_s : ByteArray) (p_prefix : ByteArray) : Option Bool :=
  Join (fun (c1 : Bool) =>
  some c1) (fun j1 =>
  if (decide ((p_prefix.size : Int) ≤ (p_s.size : Int))) then Chk (cutB 0 (p_prefix.size : Int) p_s.size) (
  j1 ((decide ((p_prefix.size : Int) ≤ (p_s.size : Int))) && (decide ((scut p_s 0 (p_prefix.size : Int)) = p_prefix)))) else j1 ((decide ((p_prefix.size : Int) ≤ (p_s.size : Int))) && true))
def strings_HasPrefix (p_s : ByteArray) (p_prefix : ByteArray) : Option Bool :=
  Option.bind (stringslite_HasPrefix p_s p_prefix) (fun r1 =>
  some r1)
def crew_try_l1 (p_c_now : List ByteArray) (self : (List GLeg) → Int → (List ByteArray) → (List ByteArray) → Int → Bool → Int → Int → Option ((List ByteArray) × (List ByteArray) × Int × Bool)) (p_c_l : List GLeg) (p_c_bound : Int) (p_sum : Int) (p_guests : Int) (j2 : Int → Bool → (List ByteArray) → (List ByteArray) → Option ((List ByteArray) × (List ByteArray) × Int × Bool)) : List GLeg → Nat → Int → Bool → (List ByteArray) → (List ByteArray) → Option ((List ByteArray) × (List ByteArray) × Int × Bool)
  | [], _, x4, x5, x6, x7 => j2 x4 x5 x6 x7
  | y1 :: ys1, i1, x4, x5, x6, x7 => Join (fun (x8 : Int) (x9 : Bool) (x10 : List ByteArray) (x11 : List ByteArray) =>
  crew_try_l1 p_c_now self p_c_l p_c_bound p_sum p_guests j2 ys1 (i1 + 1) x8 x9 x10 x11) (fun j3 =>
  Option.bind (strings_HasPrefix y1.Who k_x) (fun r3 =>
  Join (fun (x12 : Int) =>
  Join (fun (x13 : Bool) =>
  if x13 then
  j3 x4 x5 x6 x7
  else
  Chk (room x6.length) (
  Chk (inB (p_c_now.length : Int) y1.Times.length) (
  Option.bind (self p_c_l p_c_bound (x6 ++ [y1.Who]) x7 x4 x5 x12 (W (p_sum + (nth y1.Times (p_c_now.length : Int))))) (fun r4 =>
  Chk (cutB 0 (p_c_now.length : Int) r4.1.length) (
  j3 r4.2.2.1 r4.2.2.2 (cut r4.1 (0 : Int) (p_c_now.length : Int)) r4.2.1))))) (fun j5 =>
  Chk (inB (p_c_now.length : Int) y1.Times.length) (
  if decide ((nth y1.Times (p_c_now.length : Int)) = 0) then
  if true then
  Chk (inB (p_c_now.length : Int) y1.Times.length) (
  j5 true)
  else
  j5 (slices_Contains_string x6 y1.Who)
  else
  if decide (0 < p_c_bound) then
  if decide (p_c_bound < x12) then
  Chk (inB (p_c_now.length : Int) y1.Times.length) (
  j5 true)
  else
  j5 (slices_Contains_string x6 y1.Who)
  else
  if false then
  Chk (inB (p_c_now.length : Int) y1.Times.length) (
  j5 true)
  else
  j5 (slices_Contains_string x6 y1.Who)))) (fun j4 =>
  if r3 then
  j4 (W (p_guests + 1))
  else
  j4 p_guests)))
def crew_try_s (self : (List GLeg) → Int → (List ByteArray) → (List ByteArray) → Int → Bool → Int → Int → Option ((List ByteArray) × (List ByteArray) × Int × Bool)) (p_c_l : List GLeg) (p_c_bound : Int) (p_c_now : List ByteArray) (p_c_names : List ByteArray) (p_c_sum : Int) (p_c_found : Bool) (p_guests : Int) (p_sum : Int) : Option ((List ByteArray) × (List ByteArray) × Int × Bool) :=
  if decide ((p_c_now.length : Int) = 4) then
  Join (fun (x1 : Int) (x2 : Bool) (x3 : List ByteArray) =>
  some (p_c_now, x3, x1, x2)) (fun j1 =>
  if ((!p_c_found) || (decide (p_sum < p_c_sum))) then
  Option.bind (slices_Clone_string p_c_now) (fun r1 =>
  j1 p_sum true r1)
  else
  j1 p_c_sum p_c_found p_c_names)
  else
  Join (fun (x4 : Int) (x5 : Bool) (x6 : List ByteArray) (x7 : List ByteArray) =>
  some (x6, x7, x4, x5)) (fun j2 =>
  crew_try_l1 p_c_now self p_c_l p_c_bound p_sum p_guests j2 p_c_l 0 p_c_sum p_c_found p_c_now p_c_names)
def crew_try : Nat → (List GLeg) → Int → (List ByteArray) → (List ByteArray) → Int → Bool → Int → Int → Option ((List ByteArray) × (List ByteArray) × Int × Bool)
  | 0, _, _, _, _, _, _, _, _ => none
  | m + 1, p_c_l, p_c_bound, p_c_now, p_c_names, p_c_sum, p_c_found, p_guests, p_sum => crew_try_s (crew_try m) p_c_l p_c_bound p_c_now p_c_names p_c_sum p_c_found p_guests p_sum
def swimmer_Fastest (p_l : List GLeg) (p_b : Int) : Option ((List ByteArray) × Int × Bool × Int) :=
  Option.bind (swimmer_CheckLegs p_l) (fun r1 =>
  if !decide (r1 = 0) then
  some (([] : List ByteArray), 0, false, r1)
  else
  if !(words_Within p_b 0 4) then
  some (([] : List ByteArray), 0, false, 1)
  else
  Option.bind (crew_try 16 p_l p_b ([] : List ByteArray) ([] : List ByteArray) 0 false 0 0) (fun r2 =>
  some (r2.2.1, r2.2.2.1, r2.2.2.2, 0)))
def tumbkeep2_RelaysAreFastest_c1_c1 (p_x : GLeg) (p_a1 : ByteArray) : Bool :=
  decide (p_x.Who = p_a1)
def slices_IndexFunc_Leg_tumbkeep2_RelaysAreFastest_c1_c1_l1 (p_f_0 : ByteArray) (j1 : Int) : List GLeg → Nat → Int
  | [], _ => j1
  | y1 :: ys1, i1 => if (tumbkeep2_RelaysAreFastest_c1_c1 y1 p_f_0) then
  (i1 : Int)
  else
  slices_IndexFunc_Leg_tumbkeep2_RelaysAreFastest_c1_c1_l1 p_f_0 j1 ys1 (i1 + 1)
def slices_IndexFunc_Leg_tumbkeep2_RelaysAreFastest_c1_c1 (p_s : List GLeg) (p_f_0 : ByteArray) : Int :=
  Join ((-1)) (fun j1 =>
  slices_IndexFunc_Leg_tumbkeep2_RelaysAreFastest_c1_c1_l1 p_f_0 j1 p_s 0)
def tumbkeep2_RelaysAreFastest_c1 (p_k : ByteArray) (p_leg : Int) (p_a2 : List GLeg) : Option Int :=
  if decide ((slices_IndexFunc_Leg_tumbkeep2_RelaysAreFastest_c1_c1 p_a2 p_k) < 0) then
  some 0
  else
  Chk (inB (slices_IndexFunc_Leg_tumbkeep2_RelaysAreFastest_c1_c1 p_a2 p_k) p_a2.length) (
  Chk (inB p_leg ((nth p_a2 (slices_IndexFunc_Leg_tumbkeep2_RelaysAreFastest_c1_c1 p_a2 p_k)).Times).length) (
  some (nth ((nth p_a2 (slices_IndexFunc_Leg_tumbkeep2_RelaysAreFastest_c1_c1 p_a2 p_k)).Times) p_leg)))
def tumbkeep2_RelaysAreFastest_l2 (i1 : Nat) (r1 : (List GLeg) × Int) (y1 : ByteArray) (j4 : Option Bool) : List ByteArray → Nat → Option Bool
  | [], _ => j4
  | y2 :: ys2, i2 => Option.bind (tumbkeep2_RelaysAreFastest_c1 y2 (i1 : Int) r1.1) (fun r8 =>
  Option.bind (tumbkeep2_RelaysAreFastest_c1 y1 (i2 : Int) r1.1) (fun r9 =>
  Join (fun (c3 : Bool) =>
  if c3 then
  some false
  else
  tumbkeep2_RelaysAreFastest_l2 i1 r1 y1 j4 ys2 (i2 + 1)) (fun j5 =>
  if ((decide (0 < r8)) && (decide (0 < r9))) then Option.bind (tumbkeep2_RelaysAreFastest_c1 y1 (i1 : Int) r1.1) (fun r10 =>
  Option.bind (tumbkeep2_RelaysAreFastest_c1 y2 (i2 : Int) r1.1) (fun r11 =>
  j5 (((decide (0 < r8)) && (decide (0 < r9))) && (decide ((W (r8 + r9)) < (W (r10 + r11))))))) else j5 (((decide (0 < r8)) && (decide (0 < r9))) && true))))
def tumbkeep2_RelaysAreFastest_l1 (r1 : (List GLeg) × Int) (r4 : (List ByteArray) × Int × Bool × Int) (j2 : Int → Option Bool) : List ByteArray → Nat → Int → Option Bool
  | [], _, x1 => j2 x1
  | y1 :: ys1, i1, x1 => Option.bind (tumbkeep2_RelaysAreFastest_c1 y1 (i1 : Int) r1.1) (fun r6 =>
  Join (fun (c2 : Bool) =>
  if c2 then
  some false
  else
  Option.bind (tumbkeep2_RelaysAreFastest_c1 y1 (i1 : Int) r1.1) (fun r7 =>
  Chk (cutB 0 (i1 : Int) r4.1.length) (
  Join (tumbkeep2_RelaysAreFastest_l1 r1 r4 j2 ys1 (i1 + 1) (W (x1 + r7))) (fun j4 =>
  tumbkeep2_RelaysAreFastest_l2 i1 r1 y1 j4 (cut r4.1 0 (i1 : Int)) 0)))) (fun j3 =>
  if (decide (r6 = 0)) then j3 ((decide (r6 = 0)) || true) else Chk (cutB 0 (i1 : Int) r4.1.length) (
  j3 ((decide (r6 = 0)) || (slices_Contains_string (cut r4.1 0 (i1 : Int)) y1)))))
def tumbkeep2_RelaysAreFastest (p_l : List Int) : Option Bool :=
  Option.bind (Stream_Legs p_l 0) (fun r1 =>
  Option.bind (tumbref2_LegsFault r1.1) (fun r2 =>
  if !decide (r2 = 0) then
  Option.bind (tumbkeep2_ready) (fun r3 =>
  some r3)
  else
  Option.bind (swimmer_Fastest r1.1 0) (fun r4 =>
  if ((!decide (r4.2.2.2 = 0)) || (!r4.2.2.1)) then
  Join (fun (c1 : Bool) =>
  some c1) (fun j1 =>
  if (((decide (r4.2.2.2 = 0)) && (decide ((r4.1.length : Int) = 0))) && (decide (r4.2.1 = 0))) then Option.bind (tumbkeep2_ready) (fun r5 =>
  j1 ((((decide (r4.2.2.2 = 0)) && (decide ((r4.1.length : Int) = 0))) && (decide (r4.2.1 = 0))) && r5)) else j1 ((((decide (r4.2.2.2 = 0)) && (decide ((r4.1.length : Int) = 0))) && (decide (r4.2.1 = 0))) && true))
  else
  Join (fun (x1 : Int) =>
  Option.bind (Stream_Range p_l r1.2 1 4) (fun r12 =>
  Option.bind (swimmer_Fastest r1.1 r12.1) (fun r13 =>
  Join (fun (c4 : Bool) =>
  some c4) (fun j6 =>
  if ((((decide (r13.2.2.2 = 0)) && (decide ((r4.1.length : Int) = 4))) && (decide (x1 = r4.2.1))) && ((!r13.2.2.1) || ((decide (r4.2.1 ≤ r13.2.1)) && (decide ((r13.1.length : Int) = 4))))) then Option.bind (tumbkeep2_ready) (fun r14 =>
  j6 (((((decide (r13.2.2.2 = 0)) && (decide ((r4.1.length : Int) = 4))) && (decide (x1 = r4.2.1))) && ((!r13.2.2.1) || ((decide (r4.2.1 ≤ r13.2.1)) && (decide ((r13.1.length : Int) = 4))))) && r14)) else j6 (((((decide (r13.2.2.2 = 0)) && (decide ((r4.1.length : Int) = 4))) && (decide (x1 = r4.2.1))) && ((!r13.2.2.1) || ((decide (r4.2.1 ≤ r13.2.1)) && (decide ((r13.1.length : Int) = 4))))) && true))))) (fun j2 =>
  tumbkeep2_RelaysAreFastest_l1 r1 r4 j2 r4.1 0 0))))
/-- The loops' equations are made here, once. -/
theorem twin_eqs : True := by
  have h := @Stream_Legs_l2.eq_def; clear h; have h := @Stream_Legs_l2.eq_1; clear h; have h := @Stream_Legs_l2.eq_2; clear h
  have h := @Stream_Legs_l1.eq_def; clear h; have h := @Stream_Legs_l1.eq_1; clear h; have h := @Stream_Legs_l1.eq_2; clear h
  have h := @tumbref2_only_l1.eq_def; clear h; have h := @tumbref2_only_l1.eq_1; clear h; have h := @tumbref2_only_l1.eq_2; clear h
  have h := @slices_IndexFunc_int_tumbref2_LegsFault_c1_l1.eq_def; clear h; have h := @slices_IndexFunc_int_tumbref2_LegsFault_c1_l1.eq_1; clear h; have h := @slices_IndexFunc_int_tumbref2_LegsFault_c1_l1.eq_2; clear h
  have h := @tumbref2_LegsFault_l1.eq_def; clear h; have h := @tumbref2_LegsFault_l1.eq_1; clear h; have h := @tumbref2_LegsFault_l1.eq_2; clear h
  have h := @swimmer_DayOf_l1.eq_def; clear h; have h := @swimmer_DayOf_l1.eq_1; clear h; have h := @swimmer_DayOf_l1.eq_2; clear h
  have h := @swimmer_DayOf_l2.eq_def; clear h; have h := @swimmer_DayOf_l2.eq_1; clear h; have h := @swimmer_DayOf_l2.eq_2; clear h
  have h := @swimmer_DayOf_l3.eq_def; clear h; have h := @swimmer_DayOf_l3.eq_1; clear h; have h := @swimmer_DayOf_l3.eq_2; clear h
  have h := @session_CheckItems_l1.eq_def; clear h; have h := @session_CheckItems_l1.eq_1; clear h; have h := @session_CheckItems_l1.eq_2; clear h
  have h := @session_timetable_l2.eq_def; clear h; have h := @session_timetable_l2.eq_1; clear h; have h := @session_timetable_l2.eq_2; clear h
  have h := @session_timetable_l1.eq_def; clear h; have h := @session_timetable_l1.eq_1; clear h; have h := @session_timetable_l1.eq_2; clear h
  have h := @points_CheckBase_l1.eq_def; clear h; have h := @points_CheckBase_l1.eq_1; clear h; have h := @points_CheckBase_l1.eq_2; clear h
  have h := @points_baseOf_l1.eq_def; clear h; have h := @points_baseOf_l1.eq_1; clear h; have h := @points_baseOf_l1.eq_2; clear h
  have h := @bits_Div64_l1.eq_def; clear h; have h := @bits_Div64_l1.eq_1; clear h; have h := @bits_Div64_l1.eq_2; clear h
  have h := @bits_Div64_l2.eq_def; clear h; have h := @bits_Div64_l2.eq_1; clear h; have h := @bits_Div64_l2.eq_2; clear h
  have h := @record_CheckKinds_l2.eq_def; clear h; have h := @record_CheckKinds_l2.eq_1; clear h; have h := @record_CheckKinds_l2.eq_2; clear h
  have h := @record_CheckKinds_l1.eq_def; clear h; have h := @record_CheckKinds_l1.eq_1; clear h; have h := @record_CheckKinds_l1.eq_2; clear h
  have h := @slices_Index_string_l1.eq_def; clear h; have h := @slices_Index_string_l1.eq_1; clear h; have h := @slices_Index_string_l1.eq_2; clear h
  have h := @record_For_l1.eq_def; clear h; have h := @record_For_l1.eq_1; clear h; have h := @record_For_l1.eq_2; clear h
  have h := @tumbkeep2_errs_l1.eq_def; clear h; have h := @tumbkeep2_errs_l1.eq_1; clear h; have h := @tumbkeep2_errs_l1.eq_2; clear h
  have h := @swimmer_CheckLegs_l2.eq_def; clear h; have h := @swimmer_CheckLegs_l2.eq_1; clear h; have h := @swimmer_CheckLegs_l2.eq_2; clear h
  have h := @swimmer_CheckLegs_l1.eq_def; clear h; have h := @swimmer_CheckLegs_l1.eq_1; clear h; have h := @swimmer_CheckLegs_l1.eq_2; clear h
  have h := @crew_try_l1.eq_def; clear h; have h := @crew_try_l1.eq_1; clear h; have h := @crew_try_l1.eq_2; clear h
  have h := @slices_IndexFunc_Leg_tumbkeep2_RelaysAreFastest_c1_c1_l1.eq_def; clear h; have h := @slices_IndexFunc_Leg_tumbkeep2_RelaysAreFastest_c1_c1_l1.eq_1; clear h; have h := @slices_IndexFunc_Leg_tumbkeep2_RelaysAreFastest_c1_c1_l1.eq_2; clear h
  have h := @tumbkeep2_RelaysAreFastest_l2.eq_def; clear h; have h := @tumbkeep2_RelaysAreFastest_l2.eq_1; clear h; have h := @tumbkeep2_RelaysAreFastest_l2.eq_2; clear h
  have h := @tumbkeep2_RelaysAreFastest_l1.eq_def; clear h; have h := @tumbkeep2_RelaysAreFastest_l1.eq_1; clear h; have h := @tumbkeep2_RelaysAreFastest_l1.eq_2; clear h
  have h := @crew_try.eq_def; clear h; have h := @crew_try.eq_1; clear h; have h := @crew_try.eq_2; clear h
  trivial
end Go.Proofs.YthefdlbcibhblaaDoor
