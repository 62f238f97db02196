/- The Go functions as plain Lean functions, by program. -/
import Derived.Test.YtkpjakcepffimaaGreatDoorBase
import Derived.Lib.Atoi
import Derived.Lib.IndexMore
import Derived.Lib.ItoaNum
import Derived.Lib.Repeat
import Derived.Lib.Split
namespace Go.Proofs.YtkpjakcepffimaaGreatDoor
open Go
structure Gtumbmake_Stream where
  L : List Int
  at_ : Int
  deriving DecidableEq, Inhabited
structure GSwimmer where
  Key : ByteArray
  Sex : Int
  Born : Int
  deriving DecidableEq, Inhabited
structure GDate where
  Year : Int
  Month : Int
  Day : Int
  deriving DecidableEq, Inhabited
def k_empty : ByteArray := ⟨#[]⟩
def k_ann : ByteArray := ⟨#[97, 110, 110]⟩
def k_bea : ByteArray := ⟨#[98, 101, 97]⟩
def k_cid : ByteArray := ⟨#[99, 105, 100]⟩
def k_dan : ByteArray := ⟨#[100, 97, 110]⟩
def k_eve : ByteArray := ⟨#[101, 118, 101]⟩
def k_fox : ByteArray := ⟨#[102, 111, 120]⟩
def k__20 : ByteArray := ⟨#[32]⟩
def k__20fm : ByteArray := ⟨#[32, 102, 109]⟩
def k_0 : ByteArray := ⟨#[48]⟩
def k__2d : ByteArray := ⟨#[45]⟩
def k__0a : ByteArray := ⟨#[10]⟩
def k__20_0a0_2d912fm : ByteArray := ⟨#[32, 10, 48, 45, 57, 49, 50, 102, 109]⟩
def k_abcdefghijkl_h0e2e2c : ByteArray := ⟨#[97, 98, 99, 100, 101, 102, 103, 104, 105, 106, 107, 108, 109, 110, 111, 112, 113, 114, 115, 116, 117, 118, 119, 120, 121, 122, 48, 49, 50, 51, 52, 53, 54, 55, 56, 57, 45, 95]⟩
def k_f : ByteArray := ⟨#[102]⟩
def k_m : ByteArray := ⟨#[109]⟩
def k_abcdefghijklmnopqrstuvwxyz : ByteArray := ⟨#[97, 98, 99, 100, 101, 102, 103, 104, 105, 106, 107, 108, 109, 110, 111, 112, 113, 114, 115, 116, 117, 118, 119, 120, 121, 122]⟩
def k_0123456789 : ByteArray := ⟨#[48, 49, 50, 51, 52, 53, 54, 55, 56, 57]⟩
def tumbmake_Below (p_x : Int) (p_n : Int) : Option Int :=
  if decide (p_n < 1) then
  some 0
  else
  Chk (!decide (p_n = 0)) (
  Join (fun (x1 : Int) =>
  some x1) (fun j1 =>
  if decide ((Int.tmod p_x p_n) < 0) then
  j1 (W ((Int.tmod p_x p_n) + p_n))
  else
  j1 (Int.tmod p_x p_n)))
def Stream_Next (p_s_L : List Int) (p_s_at : Int) (p_n : Int) : Option (Int × Int) :=
  if decide ((p_s_L.length : Int) = 0) then
  Option.bind (tumbmake_Below (W ((W (p_s_at + 1)) * 7919)) p_n) (fun r1 =>
  some (r1, W (p_s_at + 1)))
  else
  Chk (!decide ((p_s_L.length : Int) = 0)) (
  Chk (!decide ((p_s_L.length : Int) = 0)) (
  Chk (inB (Int.tmod (W ((W (p_s_at + 1)) - 1)) (p_s_L.length : Int)) p_s_L.length) (
  Option.bind (tumbmake_Below (nth p_s_L (Int.tmod (W ((W (p_s_at + 1)) - 1)) (p_s_L.length : Int))) 1073741824) (fun r2 =>
  Option.bind (tumbmake_Below (W (r2 + (W ((W (Int.tdiv (W ((W (p_s_at + 1)) - 1)) (p_s_L.length : Int))) * (W (7919 + (Int.tmod (W ((W (p_s_at + 1)) - 1)) (p_s_L.length : Int)))))))) p_n) (fun r3 =>
  some (r3, W (p_s_at + 1)))))))
def Stream_Flip (p_s_L : List Int) (p_s_at : Int) (p_n : Int) : Option (Bool × Int) :=
  Option.bind (Stream_Next p_s_L p_s_at p_n) (fun r1 =>
  some (decide (r1.1 = 0), r1.2))
def Stream_Pick (p_s_L : List Int) (p_s_at : Int) (p_l : List Int) : Option (Int × Int) :=
  Option.bind (Stream_Next p_s_L p_s_at (p_l.length : Int)) (fun r1 =>
  Chk (inB r1.1 p_l.length) (
  some ((nth p_l r1.1), r1.2)))
def Stream_RightSwimmers_l1 (p_s_L : List Int) (j1 : (List GSwimmer) → Int → Option ((List GSwimmer) × Int)) : List ByteArray → Nat → (List GSwimmer) → Int → Option ((List GSwimmer) × Int)
  | [], _, x1, x2 => j1 x1 x2
  | y1 :: ys1, i1, x1, x2 => Join (fun (x3 : List GSwimmer) (x4 : Int) =>
  Stream_RightSwimmers_l1 p_s_L j1 ys1 (i1 + 1) x3 x4) (fun j2 =>
  Option.bind (Stream_Flip p_s_L x2 8) (fun r1 =>
  if r1.1 then
  j2 x1 r1.2
  else
  Option.bind (Stream_Pick p_s_L r1.2 [1, 2]) (fun r2 =>
  Option.bind (Stream_Pick p_s_L r2.2 [59, 0, (-1), (-307), (-3653), (-5000), 365, 1520]) (fun r3 =>
  Chk (room x1.length) (
  j2 (x1 ++ [(GSwimmer.mk y1 r2.1 r3.1)]) r3.2)))))
def Stream_RightSwimmers (p_s_L : List Int) (p_s_at : Int) : Option ((List GSwimmer) × Int) :=
  Join (fun (x1 : List GSwimmer) (x2 : Int) =>
  some (x1, x2)) (fun j1 =>
  Stream_RightSwimmers_l1 p_s_L j1 ([k_ann, k_bea, k_cid, k_dan, k_eve, k_fox] : List ByteArray) 0 ([] : List GSwimmer) p_s_at)
def Stream_Some (p_s_L : List Int) (p_s_at : Int) (p_l : List ByteArray) : Option (ByteArray × Int) :=
  Option.bind (Stream_Next p_s_L p_s_at (p_l.length : Int)) (fun r1 =>
  Chk (inB r1.1 p_l.length) (
  some ((nth p_l r1.1), r1.2)))
def Stream_Range (p_s_L : List Int) (p_s_at : Int) (p_low : Int) (p_high : Int) : Option (Int × Int) :=
  if decide (p_high < p_low) then
  some (p_low, p_s_at)
  else
  Option.bind (Stream_Next p_s_L p_s_at (W ((W (p_high - p_low)) + 1))) (fun r1 =>
  some (W (p_low + r1.1), r1.2))
def Stream_Odd (p_s_L : List Int) (p_s_at : Int) (p_low : Int) (p_high : Int) : Option (Int × Int) :=
  Option.bind (Stream_Flip p_s_L p_s_at 12) (fun r1 =>
  if r1.1 then
  Option.bind (Stream_Pick p_s_L r1.2 [W (p_low - 1), W (p_high + 1), p_low, p_high, (-1099511627776), 1099511627776]) (fun r2 =>
  some (r2.1, r2.2))
  else
  Option.bind (Stream_Range p_s_L r1.2 p_low p_high) (fun r3 =>
  some (r3.1, r3.2)))
def Stream_Swimmers (p_s_L : List Int) (p_s_at : Int) : Option ((List GSwimmer) × Int) :=
  Option.bind (Stream_RightSwimmers p_s_L p_s_at) (fun r1 =>
  Join (fun (x1 : Int) (x2 : Bool) =>
  Join (fun (x3 : List GSwimmer) (x4 : Int) =>
  some (x3, x4)) (fun j2 =>
  if x2 then
  Option.bind (Stream_Next p_s_L x1 (r1.1.length : Int)) (fun r3 =>
  Chk (inB r3.1 r1.1.length) (
  Option.bind (Stream_Some p_s_L r3.2 [(nth r1.1 r3.1).Key, k_empty, k_ann]) (fun r4 =>
  Option.bind (Stream_Pick p_s_L r4.2 [0, 1, 2, 3]) (fun r5 =>
  Option.bind (Stream_Odd p_s_L r5.2 (-40000) 4000) (fun r6 =>
  j2 (((r1.1.set r3.1.toNat (GSwimmer.mk r4.1 ((nth r1.1 r3.1).Sex) ((nth r1.1 r3.1).Born))).set r3.1.toNat (GSwimmer.mk r4.1 r5.1 ((nth r1.1 r3.1).Born))).set r3.1.toNat (GSwimmer.mk r4.1 r5.1 r6.1)) r6.2)))))
  else
  j2 r1.1 x1)) (fun j1 =>
  if (decide (0 < (r1.1.length : Int))) then
  Option.bind (Stream_Flip p_s_L r1.2 12) (fun r2 =>
  j1 r2.2 r2.1)
  else
  j1 r1.2 false))
def tumbref2_pastDate : GDate :=
  (GDate.mk 1914 6 27)
def tumbref2_monthLong (p_y : Int) (p_m : Int) : Option Int :=
  if ((decide (p_m = 2)) && (((decide ((Int.tmod p_y 4) = 0)) && (!decide ((Int.tmod p_y 100) = 0))) || (decide ((Int.tmod p_y 400) = 0)))) then
  some 29
  else
  Chk (inB (W (p_m - 1)) ([31, 28, 31, 30, 31, 30, 31, 31, 30, 31, 30, 31] : List Int).length) (
  some (nth [31, 28, 31, 30, 31, 30, 31, 31, 30, 31, 30, 31] (W (p_m - 1))))
def tumbref2_next (p_d : GDate) : Option GDate :=
  Option.bind (tumbref2_monthLong p_d.Year p_d.Month) (fun r1 =>
  Join (fun (x1 : Int) (x2 : Int) (x3 : Int) =>
  some (GDate.mk x1 x2 x3)) (fun j1 =>
  if decide (r1 < (W (p_d.Day + 1))) then
  Join (fun (x4 : Int) (x5 : Int) =>
  j1 x4 x5 1) (fun j2 =>
  if decide (12 < (W (p_d.Month + 1))) then
  j2 (W (p_d.Year + 1)) 1
  else
  j2 p_d.Year (W (p_d.Month + 1)))
  else
  j1 p_d.Year p_d.Month (W (p_d.Day + 1))))
def tumbref2_DateFor_l1 (p_day : Int) (j1 : Int → Int → Int → Option GDate) : Nat → Int → Int → Int → Int → Option GDate
  | 0, _, _, _, _ => none
  | m1 + 1, x1, x2, x3, x4 => if decide (x4 < p_day) then
  Option.bind (tumbref2_monthLong x1 x2) (fun r1 =>
  Join (fun (x5 : Int) (x6 : Int) =>
  Option.bind (tumbref2_next (GDate.mk x1 x2 x5)) (fun r3 =>
  tumbref2_DateFor_l1 p_day j1 m1 r3.Year r3.Month r3.Day x6)) (fun j2 =>
  if decide ((W ((W (x4 + (W (r1 - x3)))) + 1)) ≤ p_day) then
  Option.bind (tumbref2_monthLong x1 x2) (fun r2 =>
  j2 r2 (W (x4 + (W ((W (r1 - x3)) + 1)))))
  else
  j2 (W (x3 + (W ((W (p_day - x4)) - 1)))) p_day))
  else
  j1 x1 x2 x3
def tumbref2_DateFor (p_day : Int) : Option GDate :=
  Join (fun (x1 : Int) (x2 : Int) (x3 : Int) =>
  some (GDate.mk x1 x2 x3)) (fun j1 =>
  tumbref2_DateFor_l1 p_day j1 ((p_day - (-40000)).toNat + 2) tumbref2_pastDate.Year tumbref2_pastDate.Month tumbref2_pastDate.Day (-40000))
def strconv_Itoa (n : Int) : Option ByteArray :=
  Chk (decide (-9223372036854775808 ≤ n) && decide (n ≤ 9223372036854775807)) (some (⟨(Lib.itoa n).toArray⟩))
def strings_Repeat (s : ByteArray) (c : Int) : Option ByteArray :=
  Chk (decide (0 ≤ c) && decide (c ≤ 1000000) && decide (s.size ≤ 1000000)) (some (⟨(Lib.repeatL s.data.toList c.toNat).toArray⟩))
def tumbref2_padded (p_n : Int) (p_many : Int) : Option ByteArray :=
  Option.bind (strconv_Itoa p_n) (fun r1 =>
  Option.bind (strings_Repeat k_0 (imax 0 (W (p_many - (r1.size : Int))))) (fun r2 =>
  Option.bind (strconv_Itoa p_n) (fun r3 =>
  Chk (decide (r2.size + r3.size < 1073741824)) (
  some (r2 ++ r3)))))
def tumbref2_SwimmerLines_l1 (j1 : ByteArray → Option ByteArray) : List GSwimmer → Nat → ByteArray → Option ByteArray
  | [], _, x1 => j1 x1
  | y1 :: ys1, i1, x1 => Option.bind (tumbref2_DateFor y1.Born) (fun r1 =>
  Chk (decide (y1.Key.size + k__20.size < 1073741824)) (
  Chk (cutB y1.Sex (W (y1.Sex + 1)) k__20fm.size) (
  Chk (decide ((y1.Key ++ k__20).size + (scut k__20fm y1.Sex (W (y1.Sex + 1))).size < 1073741824)) (
  Chk (decide (((y1.Key ++ k__20) ++ (scut k__20fm y1.Sex (W (y1.Sex + 1)))).size + k__20.size < 1073741824)) (
  Option.bind (tumbref2_padded r1.Year 4) (fun r2 =>
  Chk (decide ((((y1.Key ++ k__20) ++ (scut k__20fm y1.Sex (W (y1.Sex + 1)))) ++ k__20).size + r2.size < 1073741824)) (
  Chk (decide (((((y1.Key ++ k__20) ++ (scut k__20fm y1.Sex (W (y1.Sex + 1)))) ++ k__20) ++ r2).size + k__2d.size < 1073741824)) (
  Option.bind (tumbref2_padded r1.Month 2) (fun r3 =>
  Chk (decide ((((((y1.Key ++ k__20) ++ (scut k__20fm y1.Sex (W (y1.Sex + 1)))) ++ k__20) ++ r2) ++ k__2d).size + r3.size < 1073741824)) (
  Chk (decide (((((((y1.Key ++ k__20) ++ (scut k__20fm y1.Sex (W (y1.Sex + 1)))) ++ k__20) ++ r2) ++ k__2d) ++ r3).size + k__2d.size < 1073741824)) (
  Option.bind (tumbref2_padded r1.Day 2) (fun r4 =>
  Chk (decide ((((((((y1.Key ++ k__20) ++ (scut k__20fm y1.Sex (W (y1.Sex + 1)))) ++ k__20) ++ r2) ++ k__2d) ++ r3) ++ k__2d).size + r4.size < 1073741824)) (
  Chk (decide (((((((((y1.Key ++ k__20) ++ (scut k__20fm y1.Sex (W (y1.Sex + 1)))) ++ k__20) ++ r2) ++ k__2d) ++ r3) ++ k__2d) ++ r4).size + k__0a.size < 1073741824)) (
  Chk (decide (x1.size + (((((((((y1.Key ++ k__20) ++ (scut k__20fm y1.Sex (W (y1.Sex + 1)))) ++ k__20) ++ r2) ++ k__2d) ++ r3) ++ k__2d) ++ r4) ++ k__0a).size < 1073741824)) (
  tumbref2_SwimmerLines_l1 j1 ys1 (i1 + 1) (x1 ++ (((((((((y1.Key ++ k__20) ++ (scut k__20fm y1.Sex (W (y1.Sex + 1)))) ++ k__20) ++ r2) ++ k__2d) ++ r3) ++ k__2d) ++ r4) ++ k__0a)))))))))))))))))
def tumbref2_SwimmerLines (p_l : List GSwimmer) : Option ByteArray :=
  Join (fun (x1 : ByteArray) =>
  some x1) (fun j1 =>
  tumbref2_SwimmerLines_l1 j1 p_l 0 k_empty)
def Stream_Changed (p_s_L : List Int) (p_s_at : Int) (p_t : ByteArray) (p_with : ByteArray) : Option (ByteArray × Int) :=
  if ((decide (p_t = k_empty)) || (decide (p_with = k_empty))) then
  some (p_with, p_s_at)
  else
  Option.bind (Stream_Next p_s_L p_s_at (p_t.size : Int)) (fun r1 =>
  Option.bind (Stream_Next p_s_L r1.2 (p_with.size : Int)) (fun r2 =>
  Chk (inB r2.1 p_with.size) (
  Option.bind (Stream_Next p_s_L r2.2 3) (fun r3 =>
  if decide (r3.1 = 0) then
  Chk (cutB 0 r1.1 p_t.size) (
  Chk (decide ((scut p_t 0 r1.1).size + (Utf8.encode (IntKind.wrap .i32 (sbyte p_with r2.1))).size < 1073741824)) (
  Chk (cutB (W (r1.1 + 1)) (p_t.size : Int) p_t.size) (
  Chk (decide (((scut p_t 0 r1.1) ++ (Utf8.encode (IntKind.wrap .i32 (sbyte p_with r2.1)))).size + (scut p_t (W (r1.1 + 1)) p_t.size).size < 1073741824)) (
  some (((scut p_t 0 r1.1) ++ (Utf8.encode (IntKind.wrap .i32 (sbyte p_with r2.1)))) ++ (scut p_t (W (r1.1 + 1)) p_t.size), r3.2)))))
  else
  if decide (r3.1 = 1) then
  Chk (cutB 0 r1.1 p_t.size) (
  Chk (decide ((scut p_t 0 r1.1).size + (Utf8.encode (IntKind.wrap .i32 (sbyte p_with r2.1))).size < 1073741824)) (
  Chk (cutB r1.1 (p_t.size : Int) p_t.size) (
  Chk (decide (((scut p_t 0 r1.1) ++ (Utf8.encode (IntKind.wrap .i32 (sbyte p_with r2.1)))).size + (scut p_t r1.1 p_t.size).size < 1073741824)) (
  some (((scut p_t 0 r1.1) ++ (Utf8.encode (IntKind.wrap .i32 (sbyte p_with r2.1)))) ++ (scut p_t r1.1 p_t.size), r3.2)))))
  else
  Chk (cutB 0 r1.1 p_t.size) (
  Chk (cutB (W (r1.1 + 1)) (p_t.size : Int) p_t.size) (
  Chk (decide ((scut p_t 0 r1.1).size + (scut p_t (W (r1.1 + 1)) p_t.size).size < 1073741824)) (
  some ((scut p_t 0 r1.1) ++ (scut p_t (W (r1.1 + 1)) p_t.size), r3.2))))))))
def Stream_SwimmerText_l1 (r3 : Int × Int) (p_s_L : List Int) (j1 : Int → ByteArray → Option (ByteArray × Int)) : Nat → Int → ByteArray → Int → Option (ByteArray × Int)
  | 0, _, _, _ => none
  | m1 + 1, x1, x2, x3 => if decide (x3 < r3.1) then
  Option.bind (Stream_Changed p_s_L x1 x2 k__20_0a0_2d912fm) (fun r4 =>
  Stream_SwimmerText_l1 r3 p_s_L j1 m1 r4.2 r4.1 (W (x3 + 1)))
  else
  j1 x1 x2
def Stream_SwimmerText (p_s_L : List Int) (p_s_at : Int) : Option (ByteArray × Int) :=
  Option.bind (Stream_RightSwimmers p_s_L p_s_at) (fun r1 =>
  Chk (cutB 0 (imin (r1.1.length : Int) 3) r1.1.length) (
  Option.bind (tumbref2_SwimmerLines (cut r1.1 0 (imin (r1.1.length : Int) 3))) (fun r2 =>
  Option.bind (Stream_Pick p_s_L r1.2 [0, 0, 1, 2]) (fun r3 =>
  Join (fun (x1 : Int) (x2 : ByteArray) =>
  some (x2, x1)) (fun j1 =>
  Stream_SwimmerText_l1 r3 p_s_L j1 ((r3.1 - 0).toNat + 2) r3.2 r2 0)))))
def strings_Trim (s c : ByteArray) : Option ByteArray :=
  Chk (decide (s.size ≤ 9223372036854775807)) (Chk (decide (c.size < 4294967281)) (Chk (c.data.toList.all fun b => decide (b.toNat < 128)) (some ⟨(Lib.trimS s.data.toList c.data.toList).toArray⟩)))
def words_IsKey (p_s : ByteArray) : Option Bool :=
  Join (fun (c1 : Bool) =>
  Join (fun (c2 : Bool) =>
  Join (fun (c3 : Bool) =>
  some c3) (fun j3 =>
  if c2 then Option.bind (strings_Trim p_s k_abcdefghijkl_h0e2e2c) (fun r1 =>
  j3 (c2 && (decide (r1 = k_empty)))) else j3 (c2 && true))) (fun j2 =>
  if c1 then Chk (inB 0 p_s.size) (
  j2 (c1 && (decide ((sbyte p_s 0) ≤ 122)))) else j2 (c1 && true))) (fun j1 =>
  if ((decide (1 ≤ (p_s.size : Int))) && (decide ((p_s.size : Int) ≤ 40))) then Chk (inB 0 p_s.size) (
  j1 (((decide (1 ≤ (p_s.size : Int))) && (decide ((p_s.size : Int) ≤ 40))) && (decide (97 ≤ (sbyte p_s 0))))) else j1 (((decide (1 ≤ (p_s.size : Int))) && (decide ((p_s.size : Int) ≤ 40))) && true))
def words_Within (p_n : Int) (p_low : Int) (p_high : Int) : Bool :=
  ((decide (p_low ≤ p_n)) && (decide (p_n ≤ p_high)))
def swimmer_isDay (p_n : Int) : Bool :=
  (words_Within p_n (-40000) 4000)
def swimmer_CheckSwimmers_l1 (p_l : List GSwimmer) (j1 : Option Int) : List GSwimmer → Nat → Option Int
  | [], _ => j1
  | y1 :: ys1, i1 => Option.bind (words_IsKey y1.Key) (fun r1 =>
  if !r1 then
  some 5
  else
  Join (fun (c1 : Bool) =>
  if c1 then
  some 7
  else
  if (((!decide (y1.Sex = 1)) && (!decide (y1.Sex = 2))) || (!(swimmer_isDay y1.Born))) then
  some 1
  else
  swimmer_CheckSwimmers_l1 p_l j1 ys1 (i1 + 1)) (fun j2 =>
  if (decide (0 < (i1 : Int))) then Chk (inB (W ((i1 : Int) - 1)) p_l.length) (
  j2 ((decide (0 < (i1 : Int))) && (Sless y1.Key ((nth p_l (W ((i1 : Int) - 1))).Key) || decide (y1.Key = ((nth p_l (W ((i1 : Int) - 1))).Key))))) else j2 ((decide (0 < (i1 : Int))) && true)))
def swimmer_CheckSwimmers (p_l : List GSwimmer) : Option Int :=
  if decide (500 < (p_l.length : Int)) then
  some 2
  else
  Join (some 0) (fun j1 =>
  swimmer_CheckSwimmers_l1 p_l j1 p_l 0)
def swimmer_leap (p_year : Int) : Bool :=
  ((decide ((Int.tmod p_year 4) = 0)) && ((!decide ((Int.tmod p_year 100) = 0)) || (decide ((Int.tmod p_year 400) = 0))))
def swimmer_yearLong (p_year : Int) : Int :=
  if (swimmer_leap p_year) then
  366
  else
  365
def swimmer_long (p_year : Int) (p_month : Int) : Int :=
  if decide (p_month = 2) then
  if (swimmer_leap p_year) then
  29
  else
  28
  else
  Join (fun (x1 : Bool) =>
  if x1 then
  30
  else
  31) (fun j1 =>
  if decide (p_month = 4) then
  j1 (decide (p_month = 4))
  else
  Join (fun (x2 : Bool) =>
  j1 x2) (fun j2 =>
  if decide (p_month = 6) then
  j2 (decide (p_month = 6))
  else
  Join (fun (x3 : Bool) =>
  j2 x3) (fun j3 =>
  if decide (p_month = 9) then
  j3 (decide (p_month = 9))
  else
  j3 (decide (p_month = 11)))))
def swimmer_dateOf_l1 (j1 : Int → Int → Option GDate) : Nat → Int → Int → Option GDate
  | 0, _, _ => none
  | m1 + 1, x1, x2 => if decide (x2 < 0) then
  swimmer_dateOf_l1 j1 m1 (W (x1 - 1)) (W (x2 + (swimmer_yearLong (W (x1 - 1)))))
  else
  j1 x1 x2
def swimmer_dateOf_l2 (j2 : Int → Int → Option GDate) : Nat → Int → Int → Option GDate
  | 0, _, _ => none
  | m2 + 1, x3, x4 => if decide ((swimmer_yearLong x3) ≤ x4) then
  swimmer_dateOf_l2 j2 m2 (W (x3 + 1)) (W (x4 - (swimmer_yearLong x3)))
  else
  j2 x3 x4
def swimmer_dateOf_l3 (x3 : Int) (j3 : Int → Int → Option GDate) : Nat → Int → Int → Option GDate
  | 0, _, _ => none
  | m3 + 1, x5, x6 => if decide ((swimmer_long x3 x5) ≤ x6) then
  swimmer_dateOf_l3 x3 j3 m3 (W (x5 + 1)) (W (x6 - (swimmer_long x3 x5)))
  else
  j3 x5 x6
def swimmer_dateOf (p_day : Int) : Option GDate :=
  Join (fun (x1 : Int) (x2 : Int) =>
  Join (fun (x3 : Int) (x4 : Int) =>
  Join (fun (x5 : Int) (x6 : Int) =>
  some (GDate.mk x3 x5 (W (x6 + 1)))) (fun j3 =>
  swimmer_dateOf_l3 x3 j3 ((x4 - (swimmer_long x3 1)).toNat + 2) 1 x4)) (fun j2 =>
  swimmer_dateOf_l2 j2 ((x2 - (swimmer_yearLong x1)).toNat + 2) x1 x2)) (fun j1 =>
  swimmer_dateOf_l1 j1 ((0 - p_day).toNat + 2) 2024 p_day)
def swimmer_padded (p_n : Int) (p_many : Int) : Option ByteArray :=
  Option.bind (strconv_Itoa p_n) (fun r1 =>
  Option.bind (strings_Repeat k_0 (imax 0 (W (p_many - (r1.size : Int))))) (fun r2 =>
  Chk (decide (r2.size + r1.size < 1073741824)) (
  some (r2 ++ r1))))
def swimmer_Text_l1 (j1 : ByteArray → Bool → Option (ByteArray × Int)) : List GSwimmer → Nat → ByteArray → Bool → Option (ByteArray × Int)
  | [], _, x1, x2 => j1 x1 x2
  | y1 :: ys1, i1, x1, _ => Join (fun (x3 : ByteArray) =>
  Option.bind (swimmer_dateOf y1.Born) (fun r2 =>
  Chk (decide (y1.Key.size + k__20.size < 1073741824)) (
  Chk (decide ((y1.Key ++ k__20).size + x3.size < 1073741824)) (
  Chk (decide (((y1.Key ++ k__20) ++ x3).size + k__20.size < 1073741824)) (
  Option.bind (swimmer_padded r2.Year 4) (fun r3 =>
  Chk (decide ((((y1.Key ++ k__20) ++ x3) ++ k__20).size + r3.size < 1073741824)) (
  Chk (decide (((((y1.Key ++ k__20) ++ x3) ++ k__20) ++ r3).size + k__2d.size < 1073741824)) (
  Option.bind (swimmer_padded r2.Month 2) (fun r4 =>
  Chk (decide ((((((y1.Key ++ k__20) ++ x3) ++ k__20) ++ r3) ++ k__2d).size + r4.size < 1073741824)) (
  Chk (decide (((((((y1.Key ++ k__20) ++ x3) ++ k__20) ++ r3) ++ k__2d) ++ r4).size + k__2d.size < 1073741824)) (
  Option.bind (swimmer_padded r2.Day 2) (fun r5 =>
  Chk (decide ((((((((y1.Key ++ k__20) ++ x3) ++ k__20) ++ r3) ++ k__2d) ++ r4) ++ k__2d).size + r5.size < 1073741824)) (
  Chk (decide (((((((((y1.Key ++ k__20) ++ x3) ++ k__20) ++ r3) ++ k__2d) ++ r4) ++ k__2d) ++ r5).size + k__0a.size < 1073741824)) (
  Chk (decide (x1.size + (((((((((y1.Key ++ k__20) ++ x3) ++ k__20) ++ r3) ++ k__2d) ++ r4) ++ k__2d) ++ r5) ++ k__0a).size ≤ 140737488355328)) (
  swimmer_Text_l1 j1 ys1 (i1 + 1) (x1 ++ (((((((((y1.Key ++ k__20) ++ x3) ++ k__20) ++ r3) ++ k__2d) ++ r4) ++ k__2d) ++ r5) ++ k__0a)) true))))))))))))))) (fun j2 =>
  if decide (y1.Sex = 2) then
  j2 k_m
  else
  j2 k_f)
def swimmer_Text (p_l : List GSwimmer) : Option (ByteArray × Int) :=
  Option.bind (swimmer_CheckSwimmers p_l) (fun r1 =>
  if !decide (r1 = 0) then
  some (k_empty, r1)
  else
  Join (fun (x1 : ByteArray) (x2 : Bool) =>
  if decide (200000 < (x1.size : Int)) then
  some (k_empty, 2)
  else
  some (x1, 0)) (fun j1 =>
  swimmer_Text_l1 j1 p_l 0 ByteArray.empty false))
def tumbref2_in (p_n : Int) (p_low : Int) (p_high : Int) : Bool :=
  ((decide (p_low ≤ p_n)) && (decide (p_n ≤ p_high)))
def strings_IndexByte (s : ByteArray) (c : Int) : Int := Lib.indexByte s.data.toList c.toNat.toUInt8
def tumbref2_only_l1 (p_s : ByteArray) (p_some : ByteArray) (j1 : Option Bool) : Nat → Int → Option Bool
  | 0, _ => none
  | m1 + 1, x1 => if decide (x1 < (p_s.size : Int)) then
  Chk (inB x1 p_s.size) (
  if decide ((strings_IndexByte p_some (sbyte p_s x1)) < 0) then
  some false
  else
  tumbref2_only_l1 p_s p_some j1 m1 (W (x1 + 1)))
  else
  j1
def tumbref2_only (p_s : ByteArray) (p_some : ByteArray) : Option Bool :=
  Join (some true) (fun j1 =>
  tumbref2_only_l1 p_s p_some j1 (((p_s.size : Int) - 0).toNat + 2) 0)
def tumbref2_Key (p_s : ByteArray) : Option Bool :=
  Join (fun (c1 : Bool) =>
  Join (fun (c2 : Bool) =>
  some c2) (fun j2 =>
  if c1 then Option.bind (tumbref2_only p_s k_abcdefghijkl_h0e2e2c) (fun r2 =>
  j2 (c1 && r2)) else j2 (c1 && true))) (fun j1 =>
  if (tumbref2_in (p_s.size : Int) 1 40) then Chk (cutB 0 1 p_s.size) (
  Option.bind (tumbref2_only (scut p_s 0 1) k_abcdefghijklmnopqrstuvwxyz) (fun r1 =>
  j1 ((tumbref2_in (p_s.size : Int) 1 40) && r1))) else j1 ((tumbref2_in (p_s.size : Int) 1 40) && true))
def tumbref2_Day (p_n : Int) : Bool :=
  (tumbref2_in p_n (-40000) 4000)
def tumbref2_SwimmersFault_l1 (j1 : Option Int) : List GSwimmer → Nat → ByteArray → Option Int
  | [], _, _ => j1
  | y1 :: ys1, i1, x1 => Option.bind (tumbref2_Key y1.Key) (fun r1 =>
  if !r1 then
  some 5
  else
  if (Sless y1.Key x1 || decide (y1.Key = x1)) then
  some 7
  else
  if ((!(tumbref2_in y1.Sex 1 2)) || (!(tumbref2_Day y1.Born))) then
  some 1
  else
  tumbref2_SwimmersFault_l1 j1 ys1 (i1 + 1) y1.Key)
def tumbref2_SwimmersFault (p_l : List GSwimmer) : Option Int :=
  if decide (500 < (p_l.length : Int)) then
  some 2
  else
  Join (some 0) (fun j1 =>
  tumbref2_SwimmersFault_l1 j1 p_l 0 k_empty)
def strings_Cut (s : ByteArray) (sep : ByteArray) : Option (ByteArray × ByteArray × Bool) :=
  Chk (decide (s.size < 4294967281)) (some ((⟨(Lib.cut s.data.toList sep.data.toList).1.toArray⟩, ⟨(Lib.cut s.data.toList sep.data.toList).2.1.toArray⟩, (Lib.cut s.data.toList sep.data.toList).2.2)))
def strings_Split (s : ByteArray) (sep : ByteArray) : Option (List ByteArray) :=
  Chk (decide (s.size < 4294967281) && decide (1 ≤ sep.size)) (some (Lib.splitB sep 0 (Lib.countB s sep) s))
def words_Split_l1 (j1 : Option ((List ByteArray) × Bool)) : List ByteArray → Nat → Option ((List ByteArray) × Bool)
  | [], _ => j1
  | y1 :: ys1, i1 => if decide (y1 = k_empty) then
  some (([] : List ByteArray), false)
  else
  words_Split_l1 j1 ys1 (i1 + 1)
def words_Split (p_line : ByteArray) : Option ((List ByteArray) × Bool) :=
  Option.bind (strings_Split p_line k__20) (fun r1 =>
  Join (some (r1, true)) (fun j1 =>
  words_Split_l1 j1 r1 0))
def strconv_Atoi (s : ByteArray) : Option Int :=
  Chk (decide (s.size ≤ 18)) (Lib.atoi s.data.toList)
def swimmer_DayOf_l1 (p_d : GDate) (j2 : Int → Option (Int × Int)) : Nat → Int → Int → Option (Int × Int)
  | 0, _, _ => none
  | m1 + 1, x2, x3 => if decide (x3 < p_d.Month) then
  swimmer_DayOf_l1 p_d j2 m1 (W (x2 + (swimmer_long p_d.Year x3))) (W (x3 + 1))
  else
  j2 x2
def swimmer_DayOf_l2 (p_d : GDate) (j3 : Int → Option (Int × Int)) : Nat → Int → Int → Option (Int × Int)
  | 0, _, _ => none
  | m2 + 1, x4, x5 => if decide (x5 < p_d.Year) then
  swimmer_DayOf_l2 p_d j3 m2 (W (x4 + (swimmer_yearLong x5))) (W (x5 + 1))
  else
  j3 x4
def swimmer_DayOf_l3 (j4 : Int → Option (Int × Int)) : Nat → Int → Int → Option (Int × Int)
  | 0, _, _ => none
  | m3 + 1, x6, x7 => if decide (x7 < 2024) then
  swimmer_DayOf_l3 j4 m3 (W (x6 - (swimmer_yearLong x7))) (W (x7 + 1))
  else
  j4 x6
def swimmer_DayOf (p_d : GDate) : Option (Int × Int) :=
  Join (fun (x1 : Bool) =>
  if x1 then
  some (0, 1)
  else
  Join (fun (x2 : Int) =>
  Join (fun (x4 : Int) =>
  Join (fun (x6 : Int) =>
  if !(swimmer_isDay x6) then
  some (0, 1)
  else
  some (x6, 0)) (fun j4 =>
  swimmer_DayOf_l3 j4 ((2024 - p_d.Year).toNat + 2) x4 p_d.Year)) (fun j3 =>
  swimmer_DayOf_l2 p_d j3 ((p_d.Year - 2024).toNat + 2) x2 2024)) (fun j2 =>
  swimmer_DayOf_l1 p_d j2 ((p_d.Month - 1).toNat + 2) (W (p_d.Day - 1)) 1)) (fun j1 =>
  if !(words_Within p_d.Year 1900 2100) then
  if true then
  j1 true
  else
  j1 (!(words_Within p_d.Day 1 (swimmer_long p_d.Year p_d.Month)))
  else
  if !(words_Within p_d.Month 1 12) then
  j1 true
  else
  j1 (!(words_Within p_d.Day 1 (swimmer_long p_d.Year p_d.Month))))
def swimmer_readDate_l1 (j3 : (List Int) → Option (Int × Bool)) : List ByteArray → Nat → (List Int) → Option (Int × Bool)
  | [], _, x1 => j3 x1
  | y1 :: ys1, i1, x1 => Option.bind (strings_Trim y1 k_0123456789) (fun r1 =>
  if !decide (r1 = k_empty) then
  some (0, false)
  else
  Option.bind (strconv_Atoi y1) (fun r2 =>
  Chk (room x1.length) (
  swimmer_readDate_l1 j3 ys1 (i1 + 1) (x1 ++ [r2]))))
def swimmer_readDate (p_s : ByteArray) : Option (Int × Bool) :=
  Join (fun (c1 : Bool) =>
  Join (fun (c2 : Bool) =>
  if c2 then
  some (0, false)
  else
  Chk (cutB 0 4 p_s.size) (
  Chk (cutB 5 7 p_s.size) (
  Chk (cutB 8 (p_s.size : Int) p_s.size) (
  Join (fun (x1 : List Int) =>
  Chk (inB 0 x1.length) (
  Chk (inB 1 x1.length) (
  Chk (inB 2 x1.length) (
  Option.bind (swimmer_DayOf (GDate.mk (nth x1 0) (nth x1 1) (nth x1 2))) (fun r3 =>
  some (r3.1, decide (r3.2 = 0))))))) (fun j3 =>
  swimmer_readDate_l1 j3 ([scut p_s 0 4, scut p_s 5 7, scut p_s 8 p_s.size] : List ByteArray) 0 ([] : List Int)))))) (fun j2 =>
  if c1 then j2 (c1 || true) else Chk (inB 7 p_s.size) (
  j2 (c1 || (!decide ((sbyte p_s 7) = 45)))))) (fun j1 =>
  if (!decide ((p_s.size : Int) = 10)) then j1 ((!decide ((p_s.size : Int) = 10)) || true) else Chk (inB 4 p_s.size) (
  j1 ((!decide ((p_s.size : Int) = 10)) || (!decide ((sbyte p_s 4) = 45)))))
def swimmer_Read_c1 (p_line : ByteArray) (p_a1 : List GSwimmer) : Option (Bool × (List GSwimmer)) :=
  Option.bind (words_Split p_line) (fun r1 =>
  if ((!r1.2) || (!decide ((r1.1.length : Int) = 3))) then
  some (false, p_a1)
  else
  Chk (inB 2 r1.1.length) (
  Option.bind (swimmer_readDate (nth r1.1 2)) (fun r2 =>
  Chk (inB 0 r1.1.length) (
  Chk (inB 1 r1.1.length) (
  Join (fun (x1 : Int) =>
  Chk (room p_a1.length) (
  Join (fun (c1 : Bool) =>
  some (c1, (p_a1 ++ [(GSwimmer.mk (nth r1.1 0) x1 r2.1)]))) (fun j2 =>
  if r2.2 then Chk (inB 1 r1.1.length) (
  Join (fun (c2 : Bool) =>
  j2 (r2.2 && c2)) (fun j3 =>
  if (decide ((nth r1.1 1) = k_f)) then j3 ((decide ((nth r1.1 1) = k_f)) || true) else Chk (inB 1 r1.1.length) (
  j3 ((decide ((nth r1.1 1) = k_f)) || (decide ((nth r1.1 1) = k_m)))))) else j2 (r2.2 && true)))) (fun j1 =>
  if decide ((nth r1.1 1) = k_m) then
  j1 2
  else
  j1 1))))))
def words_Lines_swimmer_Read_c1_l1 (j1 : (List GSwimmer) → Option (Int × Bool × (List GSwimmer))) : Nat → (List GSwimmer) → ByteArray → Int → Option (Int × Bool × (List GSwimmer))
  | 0, _, _, _ => none
  | m1 + 1, x1, x2, x3 => if !decide (x2 = k_empty) then
  Option.bind (strings_Cut x2 k__0a) (fun r1 =>
  Join (fun (x4 : List GSwimmer) (x5 : Bool) =>
  if x5 then
  some (x3, false, x4)
  else
  words_Lines_swimmer_Read_c1_l1 j1 m1 x4 r1.2.1 (W (x3 + 1))) (fun j2 =>
  if (!r1.2.2) then
  j2 x1 true
  else
  Option.bind (swimmer_Read_c1 r1.1 x1) (fun r2 =>
  j2 r2.2 (!r2.1))))
  else
  j1 x1
def words_Lines_swimmer_Read_c1 (p_text : ByteArray) (p_take_0 : List GSwimmer) : Option (Int × Bool × (List GSwimmer)) :=
  Join (fun (x1 : List GSwimmer) =>
  some (0, true, x1)) (fun j1 =>
  words_Lines_swimmer_Read_c1_l1 j1 4611686018427387904 p_take_0 p_text 0)
def slices_Clip_Swimmer (p_s : List GSwimmer) : Option (List GSwimmer) :=
  Chk (cutB 0 (p_s.length : Int) p_s.length) (
  some (cut p_s 0 (p_s.length : Int)))
def swimmer_Read (p_text : ByteArray) : Option ((List GSwimmer) × Int × Int) :=
  if decide (200000 < (p_text.size : Int)) then
  some (([] : List GSwimmer), 0, 2)
  else
  Option.bind (words_Lines_swimmer_Read_c1 p_text ([] : List GSwimmer)) (fun r1 =>
  if !r1.2.1 then
  some (([] : List GSwimmer), r1.1, 9)
  else
  Option.bind (swimmer_CheckSwimmers r1.2.2) (fun r2 =>
  if !decide (r2 = 0) then
  some (([] : List GSwimmer), 0, r2)
  else
  Option.bind (slices_Clip_Swimmer r1.2.2) (fun r3 =>
  some (r3, 0, 0))))
def slices_Index_string_l1 (p_v : ByteArray) (j1 : Int) : List ByteArray → Nat → Int
  | [], _ => j1
  | y1 :: ys1, i1 => if decide (p_v = y1) then
  (i1 : Int)
  else
  slices_Index_string_l1 p_v j1 ys1 (i1 + 1)
def slices_Index_string (p_s : List ByteArray) (p_v : ByteArray) : Int :=
  Join ((-1)) (fun j1 =>
  slices_Index_string_l1 p_v j1 p_s 0)
def slices_Contains_string (p_s : List ByteArray) (p_v : ByteArray) : Bool :=
  decide (0 ≤ (slices_Index_string p_s p_v))
def tumbref2_Words (p_line : ByteArray) : Option ((List ByteArray) × Bool) :=
  Option.bind (strings_Split p_line k__20) (fun r1 =>
  some (r1, !(slices_Contains_string r1 k_empty)))
def cmp_isNaN_int (p_x : Int) : Bool :=
  !decide (p_x = p_x)
def cmp_Compare_int (p_x : Int) (p_y : Int) : Int :=
  if (cmp_isNaN_int p_x) then
  if (cmp_isNaN_int p_y) then
  0
  else
  (-1)
  else
  if (cmp_isNaN_int p_y) then
  1
  else
  if decide (p_x < p_y) then
  (-1)
  else
  if decide (p_y < p_x) then
  1
  else
  0
def slices_Compare_int_l1 (p_s2 : List Int) (j1 : Option Int) : List Int → Nat → Option Int
  | [], _ => j1
  | y1 :: ys1, i1 => if decide ((p_s2.length : Int) ≤ (i1 : Int)) then
  some 1
  else
  Chk (inB (i1 : Int) p_s2.length) (
  if !decide ((cmp_Compare_int y1 (nth p_s2 (i1 : Int))) = 0) then
  some (cmp_Compare_int y1 (nth p_s2 (i1 : Int)))
  else
  slices_Compare_int_l1 p_s2 j1 ys1 (i1 + 1))
def slices_Compare_int (p_s1 : List Int) (p_s2 : List Int) : Option Int :=
  Join (if decide ((p_s1.length : Int) < (p_s2.length : Int)) then
  some (-1)
  else
  some 0) (fun j1 =>
  slices_Compare_int_l1 p_s2 j1 p_s1 0)
def tumbref2_dateOrder (p_a : GDate) (p_b : GDate) : Option Int :=
  Option.bind (slices_Compare_int [p_a.Year, p_a.Month, p_a.Day] [p_b.Year, p_b.Month, p_b.Day]) (fun r1 =>
  some r1)
def tumbref2_DayFor_l1 (p_d : GDate) (j2 : Int → Option (Int × Int)) : Nat → Int → Int → Option (Int × Int)
  | 0, _, _ => none
  | m1 + 1, x2, x3 => if decide (x2 < x3) then
  Join (fun (x4 : Int) (x5 : Int) =>
  tumbref2_DayFor_l1 p_d j2 m1 x4 x5) (fun j3 =>
  Option.bind (tumbref2_DateFor (W (x2 + (W (Int.tdiv (W (x3 - x2)) 2))))) (fun r3 =>
  Option.bind (tumbref2_dateOrder r3 p_d) (fun r4 =>
  Join (fun (x6 : Int) (x7 : Int) =>
  j3 x6 x7) (fun j4 =>
  if decide (0 ≤ r4) then
  j4 x2 (W (x2 + (W (Int.tdiv (W (x3 - x2)) 2))))
  else
  j4 (W ((W (x2 + (W (Int.tdiv (W (x3 - x2)) 2)))) + 1)) x3))))
  else
  j2 x2
def tumbref2_DayFor (p_d : GDate) : Option (Int × Int) :=
  Join (fun (x1 : Bool) =>
  if x1 then
  some (0, 1)
  else
  Join (fun (x2 : Int) =>
  Option.bind (tumbref2_DateFor x2) (fun r5 =>
  if !decide (r5 = p_d) then
  some (0, 1)
  else
  some (x2, 0))) (fun j2 =>
  tumbref2_DayFor_l1 p_d j2 44002 (-40000) 4000)) (fun j1 =>
  if !(tumbref2_in p_d.Year 1914 2036) then
  if true then
  j1 true
  else
  Option.bind (tumbref2_monthLong p_d.Year p_d.Month) (fun r1 =>
  j1 (!(tumbref2_in p_d.Day 1 r1)))
  else
  if !(tumbref2_in p_d.Month 1 12) then
  j1 true
  else
  Option.bind (tumbref2_monthLong p_d.Year p_d.Month) (fun r2 =>
  j1 (!(tumbref2_in p_d.Day 1 r2))))
def strings_Index (s : ByteArray) (sub : ByteArray) : Option Int :=
  Chk (decide (s.size < 4294967281)) (some (Lib.index s.data.toList sub.data.toList))
def tumbref2_SwimmersRead_c1 (p_line : ByteArray) (p_a1 : List GSwimmer) : Option (Bool × (List GSwimmer)) :=
  Option.bind (tumbref2_Words p_line) (fun r1 =>
  Join (fun (c1 : Bool) =>
  if c1 then
  some (false, p_a1)
  else
  Chk (inB 2 r1.1.length) (
  Option.bind (strings_Split (nth r1.1 2) k__2d) (fun r2 =>
  Join (fun (x1 : Bool) =>
  if x1 then
  some (false, p_a1)
  else
  Chk (inB 0 r2.length) (
  Option.bind (strconv_Atoi (nth r2 0)) (fun r11 =>
  Chk (inB 1 r2.length) (
  Option.bind (strconv_Atoi (nth r2 1)) (fun r12 =>
  Chk (inB 2 r2.length) (
  Option.bind (strconv_Atoi (nth r2 2)) (fun r13 =>
  Option.bind (tumbref2_DayFor (GDate.mk r11 r12 r13)) (fun r14 =>
  Chk (inB 0 r1.1.length) (
  Chk (inB 1 r1.1.length) (
  Option.bind (strings_Index k__20fm (nth r1.1 1)) (fun r15 =>
  Chk (room p_a1.length) (
  some (decide (r14.2 = 0), (p_a1 ++ [(GSwimmer.mk (nth r1.1 0) r15 r14.1)])))))))))))))) (fun j3 =>
  if !decide ((r2.length : Int) = 3) then
  if true then
  if true then
  if true then
  j3 true
  else
  Chk (inB 0 r2.length) (
  Chk (inB 1 r2.length) (
  Chk (decide ((nth r2 0).size + (nth r2 1).size < 1073741824)) (
  Chk (inB 2 r2.length) (
  Chk (decide (((nth r2 0) ++ (nth r2 1)).size + (nth r2 2).size < 1073741824)) (
  Option.bind (tumbref2_only (((nth r2 0) ++ (nth r2 1)) ++ (nth r2 2)) k_0123456789) (fun r3 =>
  j3 (!r3)))))))
  else
  Chk (inB 2 r2.length) (
  if !decide (((nth r2 2).size : Int) = 2) then
  Chk (inB 2 r2.length) (
  j3 true)
  else
  Chk (inB 0 r2.length) (
  Chk (inB 1 r2.length) (
  Chk (decide ((nth r2 0).size + (nth r2 1).size < 1073741824)) (
  Chk (inB 2 r2.length) (
  Chk (decide (((nth r2 0) ++ (nth r2 1)).size + (nth r2 2).size < 1073741824)) (
  Option.bind (tumbref2_only (((nth r2 0) ++ (nth r2 1)) ++ (nth r2 2)) k_0123456789) (fun r4 =>
  j3 (!r4))))))))
  else
  Chk (inB 1 r2.length) (
  if !decide (((nth r2 1).size : Int) = 2) then
  if true then
  Chk (inB 1 r2.length) (
  j3 true)
  else
  Chk (inB 0 r2.length) (
  Chk (inB 1 r2.length) (
  Chk (decide ((nth r2 0).size + (nth r2 1).size < 1073741824)) (
  Chk (inB 2 r2.length) (
  Chk (decide (((nth r2 0) ++ (nth r2 1)).size + (nth r2 2).size < 1073741824)) (
  Option.bind (tumbref2_only (((nth r2 0) ++ (nth r2 1)) ++ (nth r2 2)) k_0123456789) (fun r5 =>
  j3 (!r5)))))))
  else
  Chk (inB 2 r2.length) (
  if !decide (((nth r2 2).size : Int) = 2) then
  Chk (inB 1 r2.length) (
  Chk (inB 2 r2.length) (
  j3 true))
  else
  Chk (inB 0 r2.length) (
  Chk (inB 1 r2.length) (
  Chk (decide ((nth r2 0).size + (nth r2 1).size < 1073741824)) (
  Chk (inB 2 r2.length) (
  Chk (decide (((nth r2 0) ++ (nth r2 1)).size + (nth r2 2).size < 1073741824)) (
  Option.bind (tumbref2_only (((nth r2 0) ++ (nth r2 1)) ++ (nth r2 2)) k_0123456789) (fun r6 =>
  j3 (!r6)))))))))
  else
  Chk (inB 0 r2.length) (
  if !decide (((nth r2 0).size : Int) = 4) then
  if true then
  if true then
  Chk (inB 0 r2.length) (
  j3 true)
  else
  Chk (inB 0 r2.length) (
  Chk (inB 1 r2.length) (
  Chk (decide ((nth r2 0).size + (nth r2 1).size < 1073741824)) (
  Chk (inB 2 r2.length) (
  Chk (decide (((nth r2 0) ++ (nth r2 1)).size + (nth r2 2).size < 1073741824)) (
  Option.bind (tumbref2_only (((nth r2 0) ++ (nth r2 1)) ++ (nth r2 2)) k_0123456789) (fun r7 =>
  j3 (!r7)))))))
  else
  Chk (inB 2 r2.length) (
  if !decide (((nth r2 2).size : Int) = 2) then
  Chk (inB 0 r2.length) (
  Chk (inB 2 r2.length) (
  j3 true))
  else
  Chk (inB 0 r2.length) (
  Chk (inB 1 r2.length) (
  Chk (decide ((nth r2 0).size + (nth r2 1).size < 1073741824)) (
  Chk (inB 2 r2.length) (
  Chk (decide (((nth r2 0) ++ (nth r2 1)).size + (nth r2 2).size < 1073741824)) (
  Option.bind (tumbref2_only (((nth r2 0) ++ (nth r2 1)) ++ (nth r2 2)) k_0123456789) (fun r8 =>
  j3 (!r8))))))))
  else
  Chk (inB 1 r2.length) (
  if !decide (((nth r2 1).size : Int) = 2) then
  if true then
  Chk (inB 0 r2.length) (
  Chk (inB 1 r2.length) (
  j3 true))
  else
  Chk (inB 0 r2.length) (
  Chk (inB 1 r2.length) (
  Chk (decide ((nth r2 0).size + (nth r2 1).size < 1073741824)) (
  Chk (inB 2 r2.length) (
  Chk (decide (((nth r2 0) ++ (nth r2 1)).size + (nth r2 2).size < 1073741824)) (
  Option.bind (tumbref2_only (((nth r2 0) ++ (nth r2 1)) ++ (nth r2 2)) k_0123456789) (fun r9 =>
  j3 (!r9)))))))
  else
  Chk (inB 2 r2.length) (
  if !decide (((nth r2 2).size : Int) = 2) then
  Chk (inB 0 r2.length) (
  Chk (inB 1 r2.length) (
  Chk (inB 2 r2.length) (
  j3 true)))
  else
  Chk (inB 0 r2.length) (
  Chk (inB 1 r2.length) (
  Chk (decide ((nth r2 0).size + (nth r2 1).size < 1073741824)) (
  Chk (inB 2 r2.length) (
  Chk (decide (((nth r2 0) ++ (nth r2 1)).size + (nth r2 2).size < 1073741824)) (
  Option.bind (tumbref2_only (((nth r2 0) ++ (nth r2 1)) ++ (nth r2 2)) k_0123456789) (fun r10 =>
  j3 (!r10)))))))))))))) (fun j1 =>
  if ((!r1.2) || (!decide ((r1.1.length : Int) = 3))) then j1 (((!r1.2) || (!decide ((r1.1.length : Int) = 3))) || true) else Chk (inB 1 r1.1.length) (
  Join (fun (c2 : Bool) =>
  j1 (((!r1.2) || (!decide ((r1.1.length : Int) = 3))) || c2)) (fun j2 =>
  if (!decide ((nth r1.1 1) = k_f)) then Chk (inB 1 r1.1.length) (
  j2 ((!decide ((nth r1.1 1) = k_f)) && (!decide ((nth r1.1 1) = k_m)))) else j2 ((!decide ((nth r1.1 1) = k_f)) && true)))))
def tumbref2_Lines_tumbref2_SwimmersRead_c1_l1 (j1 : (List GSwimmer) → Option (Int × Bool × (List GSwimmer))) : Nat → (List GSwimmer) → ByteArray → Int → Option (Int × Bool × (List GSwimmer))
  | 0, _, _, _ => none
  | m1 + 1, x1, x2, x3 => if !decide (x2 = k_empty) then
  Option.bind (strings_Cut x2 k__0a) (fun r1 =>
  Join (fun (x4 : List GSwimmer) (x5 : Bool) =>
  if x5 then
  some (x3, false, x4)
  else
  tumbref2_Lines_tumbref2_SwimmersRead_c1_l1 j1 m1 x4 r1.2.1 (W (x3 + 1))) (fun j2 =>
  if (!r1.2.2) then
  j2 x1 true
  else
  Option.bind (tumbref2_SwimmersRead_c1 r1.1 x1) (fun r2 =>
  j2 r2.2 (!r2.1))))
  else
  j1 x1
def tumbref2_Lines_tumbref2_SwimmersRead_c1 (p_text : ByteArray) (p_take_0 : List GSwimmer) : Option (Int × Bool × (List GSwimmer)) :=
  Join (fun (x1 : List GSwimmer) =>
  some (0, true, x1)) (fun j1 =>
  tumbref2_Lines_tumbref2_SwimmersRead_c1_l1 j1 4611686018427387904 p_take_0 p_text 0)
def tumbref2_SwimmersRead (p_text : ByteArray) : Option ((List GSwimmer) × Int × Int) :=
  if decide (200000 < (p_text.size : Int)) then
  some (([] : List GSwimmer), 0, 2)
  else
  Option.bind (tumbref2_Lines_tumbref2_SwimmersRead_c1 p_text ([] : List GSwimmer)) (fun r1 =>
  if !r1.2.1 then
  some (([] : List GSwimmer), r1.1, 9)
  else
  Option.bind (tumbref2_SwimmersFault r1.2.2) (fun r2 =>
  if !decide (r2 = 0) then
  some (([] : List GSwimmer), 0, r2)
  else
  some (r1.2.2, 0, 0)))
def slices_Equal_Swimmer_l1 (p_s2 : List GSwimmer) (j1 : Option Bool) : List GSwimmer → Nat → Option Bool
  | [], _ => j1
  | y1 :: ys1, i1 => Chk (inB (i1 : Int) p_s2.length) (
  if !decide (y1 = (nth p_s2 (i1 : Int))) then
  some false
  else
  slices_Equal_Swimmer_l1 p_s2 j1 ys1 (i1 + 1))
def slices_Equal_Swimmer (p_s1 : List GSwimmer) (p_s2 : List GSwimmer) : Option Bool :=
  if !decide ((p_s1.length : Int) = (p_s2.length : Int)) then
  some false
  else
  Join (some true) (fun j1 =>
  slices_Equal_Swimmer_l1 p_s2 j1 p_s1 0)
def tumblaw2_dated : Option Bool :=
  Option.bind (swimmer_DayOf (GDate.mk 2024 3 1)) (fun r1 =>
  some ((decide (r1.2 = 0)) && (decide (r1.1 = 60))))
def tumblaw2_SwimmerTexts (p_l : List Int) : Option Bool :=
  Option.bind (Stream_Swimmers p_l 0) (fun r1 =>
  Option.bind (Stream_SwimmerText p_l r1.2) (fun r2 =>
  Option.bind (swimmer_Text r1.1) (fun r3 =>
  Option.bind (tumbref2_SwimmersFault r1.1) (fun r4 =>
  Join (fun (x1 : ByteArray) =>
  Option.bind (swimmer_Read r2.1) (fun r6 =>
  Option.bind (tumbref2_SwimmersRead r2.1) (fun r7 =>
  Join (fun (c1 : Bool) =>
  Join (fun (c2 : Bool) =>
  some c2) (fun j3 =>
  if ((c1 && (decide (r6.2.1 = r7.2.1))) && (decide (r6.2.2 = r7.2.2))) then Option.bind (tumblaw2_dated) (fun r9 =>
  j3 (((c1 && (decide (r6.2.1 = r7.2.1))) && (decide (r6.2.2 = r7.2.2))) && r9)) else j3 (((c1 && (decide (r6.2.1 = r7.2.1))) && (decide (r6.2.2 = r7.2.2))) && true))) (fun j2 =>
  if ((decide (r3.2 = r4)) && (decide (r3.1 = x1))) then Option.bind (slices_Equal_Swimmer r6.1 r7.1) (fun r8 =>
  j2 (((decide (r3.2 = r4)) && (decide (r3.1 = x1))) && r8)) else j2 (((decide (r3.2 = r4)) && (decide (r3.1 = x1))) && true))))) (fun j1 =>
  if decide (r4 = 0) then
  Option.bind (tumbref2_SwimmerLines r1.1) (fun r5 =>
  j1 r5)
  else
  j1 k_empty)))))
theorem twin_eqs : True := by
  have h := @Stream_RightSwimmers_l1.eq_def; clear h; have h := @Stream_RightSwimmers_l1.eq_1; clear h; have h := @Stream_RightSwimmers_l1.eq_2; clear h
  have h := @tumbref2_DateFor_l1.eq_def; clear h; have h := @tumbref2_DateFor_l1.eq_1; clear h; have h := @tumbref2_DateFor_l1.eq_2; clear h
  have h := @tumbref2_SwimmerLines_l1.eq_def; clear h; have h := @tumbref2_SwimmerLines_l1.eq_1; clear h; have h := @tumbref2_SwimmerLines_l1.eq_2; clear h
  have h := @Stream_SwimmerText_l1.eq_def; clear h; have h := @Stream_SwimmerText_l1.eq_1; clear h; have h := @Stream_SwimmerText_l1.eq_2; clear h
  have h := @swimmer_CheckSwimmers_l1.eq_def; clear h; have h := @swimmer_CheckSwimmers_l1.eq_1; clear h; have h := @swimmer_CheckSwimmers_l1.eq_2; clear h
  have h := @swimmer_dateOf_l1.eq_def; clear h; have h := @swimmer_dateOf_l1.eq_1; clear h; have h := @swimmer_dateOf_l1.eq_2; clear h
  have h := @swimmer_dateOf_l2.eq_def; clear h; have h := @swimmer_dateOf_l2.eq_1; clear h; have h := @swimmer_dateOf_l2.eq_2; clear h
  have h := @swimmer_dateOf_l3.eq_def; clear h; have h := @swimmer_dateOf_l3.eq_1; clear h; have h := @swimmer_dateOf_l3.eq_2; clear h
  have h := @swimmer_Text_l1.eq_def; clear h; have h := @swimmer_Text_l1.eq_1; clear h; have h := @swimmer_Text_l1.eq_2; clear h
  have h := @tumbref2_only_l1.eq_def; clear h; have h := @tumbref2_only_l1.eq_1; clear h; have h := @tumbref2_only_l1.eq_2; clear h
  have h := @tumbref2_SwimmersFault_l1.eq_def; clear h; have h := @tumbref2_SwimmersFault_l1.eq_1; clear h; have h := @tumbref2_SwimmersFault_l1.eq_2; clear h
  have h := @words_Split_l1.eq_def; clear h; have h := @words_Split_l1.eq_1; clear h; have h := @words_Split_l1.eq_2; clear h
  have h := @swimmer_DayOf_l1.eq_def; clear h; have h := @swimmer_DayOf_l1.eq_1; clear h; have h := @swimmer_DayOf_l1.eq_2; clear h
  have h := @swimmer_DayOf_l2.eq_def; clear h; have h := @swimmer_DayOf_l2.eq_1; clear h; have h := @swimmer_DayOf_l2.eq_2; clear h
  have h := @swimmer_DayOf_l3.eq_def; clear h; have h := @swimmer_DayOf_l3.eq_1; clear h; have h := @swimmer_DayOf_l3.eq_2; clear h
  have h := @swimmer_readDate_l1.eq_def; clear h; have h := @swimmer_readDate_l1.eq_1; clear h; have h := @swimmer_readDate_l1.eq_2; clear h
  have h := @words_Lines_swimmer_Read_c1_l1.eq_def; clear h; have h := @words_Lines_swimmer_Read_c1_l1.eq_1; clear h; have h := @words_Lines_swimmer_Read_c1_l1.eq_2; clear h
  have h := @slices_Index_string_l1.eq_def; clear h; have h := @slices_Index_string_l1.eq_1; clear h; have h := @slices_Index_string_l1.eq_2; clear h
  have h := @slices_Compare_int_l1.eq_def; clear h; have h := @slices_Compare_int_l1.eq_1; clear h; have h := @slices_Compare_int_l1.eq_2; clear h
  have h := @tumbref2_DayFor_l1.eq_def; clear h; have h := @tumbref2_DayFor_l1.eq_1; clear h; have h := @tumbref2_DayFor_l1.eq_2; clear h
  have h := @tumbref2_Lines_tumbref2_SwimmersRead_c1_l1.eq_def; clear h; have h := @tumbref2_Lines_tumbref2_SwimmersRead_c1_l1.eq_1; clear h; have h := @tumbref2_Lines_tumbref2_SwimmersRead_c1_l1.eq_2; clear h
  have h := @slices_Equal_Swimmer_l1.eq_def; clear h; have h := @slices_Equal_Swimmer_l1.eq_1; clear h; have h := @slices_Equal_Swimmer_l1.eq_2; clear h
  trivial
end Go.Proofs.YtkpjakcepffimaaGreatDoor
