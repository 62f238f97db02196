/- The Go functions as plain Lean functions, by program. -/
import Derived.Test.YtfajklagapggoaaDoorBase
namespace Go.Proofs.YtfajklagapggoaaDoor
open Go
structure GMark where
  Who : ByteArray
  Race : ByteArray
  Day : Int
  Time : Int
  deriving DecidableEq, Inhabited
structure GStandard where
  Race : ByteArray
  Time : Int
  From : Int
  To : Int
  deriving DecidableEq, Inhabited
structure GDate where
  Year : Int
  Month : Int
  Day : Int
  deriving DecidableEq, Inhabited
def k_empty : ByteArray := ⟨#[]⟩
def k_ann : ByteArray := ⟨#[97, 110, 110]⟩
def k_bea : ByteArray := ⟨#[98, 101, 97]⟩
def k_ra : ByteArray := ⟨#[114, 97]⟩
def k_rb : ByteArray := ⟨#[114, 98]⟩
def k_A : ByteArray := ⟨#[65]⟩
def k_aa : ByteArray := ⟨#[97, 97]⟩
def k_rz : ByteArray := ⟨#[114, 122]⟩
def k_abcdefghijkl_h0e2e2c : ByteArray := ⟨#[97, 98, 99, 100, 101, 102, 103, 104, 105, 106, 107, 108, 109, 110, 111, 112, 113, 114, 115, 116, 117, 118, 119, 120, 121, 122, 48, 49, 50, 51, 52, 53, 54, 55, 56, 57, 45, 95]⟩
def k_abcdefghijklmnopqrstuvwxyz : ByteArray := ⟨#[97, 98, 99, 100, 101, 102, 103, 104, 105, 106, 107, 108, 109, 110, 111, 112, 113, 114, 115, 116, 117, 118, 119, 120, 121, 122]⟩
def tumbmake_Below (p_x : Int) (p_n : Int) : Option Int :=
  if decide (p_n < 1) then
  some 0
  else
  Chk (!decide (p_n = 0)) (
  Join (fun (x1 : Int) =>
  some x1) (fun j1 =>
  if decide ((Int.tmod p_x p_n) < 0) then
  j1 (W ((Int.tmod p_x p_n) + p_n))
  else
  j1 (Int.tmod p_x p_n)))
def Stream_Next (p_s_L : List Int) (p_s_at : Int) (p_n : Int) : Option (Int × Int) :=
  if decide ((p_s_L.length : Int) = 0) then
  Option.bind (tumbmake_Below (W ((W (p_s_at + 1)) * 7919)) p_n) (fun r1 =>
  some (r1, W (p_s_at + 1)))
  else
  Chk (!decide ((p_s_L.length : Int) = 0)) (
  Chk (!decide ((p_s_L.length : Int) = 0)) (
  Chk (inB (Int.tmod (W ((W (p_s_at + 1)) - 1)) (p_s_L.length : Int)) p_s_L.length) (
  Option.bind (tumbmake_Below (nth p_s_L (Int.tmod (W ((W (p_s_at + 1)) - 1)) (p_s_L.length : Int))) 1073741824) (fun r2 =>
  Option.bind (tumbmake_Below (W (r2 + (W ((W (Int.tdiv (W ((W (p_s_at + 1)) - 1)) (p_s_L.length : Int))) * (W (7919 + (Int.tmod (W ((W (p_s_at + 1)) - 1)) (p_s_L.length : Int)))))))) p_n) (fun r3 =>
  some (r3, W (p_s_at + 1)))))))
def Stream_Range (p_s_L : List Int) (p_s_at : Int) (p_low : Int) (p_high : Int) : Option (Int × Int) :=
  if decide (p_high < p_low) then
  some (p_low, p_s_at)
  else
  Option.bind (Stream_Next p_s_L p_s_at (W ((W (p_high - p_low)) + 1))) (fun r1 =>
  some (W (p_low + r1.1), r1.2))
def Stream_Some (p_s_L : List Int) (p_s_at : Int) (p_l : List ByteArray) : Option (ByteArray × Int) :=
  Option.bind (Stream_Next p_s_L p_s_at (p_l.length : Int)) (fun r1 =>
  Chk (inB r1.1 p_l.length) (
  some ((nth p_l r1.1), r1.2)))
def Stream_Pick (p_s_L : List Int) (p_s_at : Int) (p_l : List Int) : Option (Int × Int) :=
  Option.bind (Stream_Next p_s_L p_s_at (p_l.length : Int)) (fun r1 =>
  Chk (inB r1.1 p_l.length) (
  some ((nth p_l r1.1), r1.2)))
def Stream_Flip (p_s_L : List Int) (p_s_at : Int) (p_n : Int) : Option (Bool × Int) :=
  Option.bind (Stream_Next p_s_L p_s_at p_n) (fun r1 =>
  some (decide (r1.1 = 0), r1.2))
def Stream_Odd (p_s_L : List Int) (p_s_at : Int) (p_low : Int) (p_high : Int) : Option (Int × Int) :=
  Option.bind (Stream_Flip p_s_L p_s_at 12) (fun r1 =>
  if r1.1 then
  Option.bind (Stream_Pick p_s_L r1.2 [W (p_low - 1), W (p_high + 1), p_low, p_high, (-1099511627776), 1099511627776]) (fun r2 =>
  some (r2.1, r2.2))
  else
  Option.bind (Stream_Range p_s_L r1.2 p_low p_high) (fun r3 =>
  some (r3.1, r3.2)))
def Stream_Marks_l1 (p_many : Int) (p_s_L : List Int) (j1 : (List GMark) → Int → Option ((List GMark) × Int)) : Nat → (List GMark) → Int → Int → Option ((List GMark) × Int)
  | 0, _, _, _ => none
  | m1 + 1, x1, x2, x3 => if decide (x3 < p_many) then
  Option.bind (Stream_Some p_s_L x2 [k_ann, k_ann, k_bea]) (fun r1 =>
  Option.bind (Stream_Some p_s_L r1.2 [k_ra, k_ra, k_rb]) (fun r2 =>
  Option.bind (Stream_Range p_s_L r2.2 0 10) (fun r3 =>
  Option.bind (Stream_Pick p_s_L r3.2 [5900, 5900, 6000, 6100]) (fun r4 =>
  Option.bind (Stream_Flip p_s_L r4.2 80) (fun r5 =>
  Join (fun (x4 : ByteArray) (x5 : ByteArray) (x6 : Int) (x7 : Int) (x8 : Int) =>
  Chk (room x1.length) (
  Stream_Marks_l1 p_many p_s_L j1 m1 (x1 ++ [(GMark.mk x4 x5 x6 x7)]) x8 (W (x3 + 1)))) (fun j2 =>
  if r5.1 then
  Join (fun (x9 : ByteArray) (x10 : ByteArray) (x11 : Int) (x12 : Int) (x13 : Int) =>
  j2 x9 x10 x11 x12 x13) (fun j3 =>
  Option.bind (Stream_Some p_s_L r5.2 [r1.1, k_empty]) (fun r6 =>
  Option.bind (Stream_Some p_s_L r6.2 [r2.1, k_A]) (fun r7 =>
  Option.bind (Stream_Odd p_s_L r7.2 (-40000) 4000) (fun r8 =>
  Option.bind (Stream_Odd p_s_L r8.2 1 360000) (fun r9 =>
  j3 r6.1 r7.1 r8.1 r9.1 r9.2)))))
  else
  j2 r1.1 r2.1 r3.1 r4.1 r5.2))))))
  else
  j1 x1 x2
def Stream_Marks (p_s_L : List Int) (p_s_at : Int) (p_many : Int) : Option ((List GMark) × Int) :=
  Join (fun (x1 : List GMark) (x2 : Int) =>
  some (x1, x2)) (fun j1 =>
  Stream_Marks_l1 p_many p_s_L j1 ((p_many - 0).toNat + 2) ([] : List GMark) p_s_at 0)
def Stream_Standards_l1 (p_s_L : List Int) (j1 : (List GStandard) → Int → Option ((List GStandard) × Int)) : List ByteArray → Nat → (List GStandard) → Int → Option ((List GStandard) × Int)
  | [], _, x1, x2 => j1 x1 x2
  | y1 :: ys1, i1, x1, x2 => Join (fun (x3 : List GStandard) (x4 : Int) =>
  Stream_Standards_l1 p_s_L j1 ys1 (i1 + 1) x3 x4) (fun j2 =>
  Option.bind (Stream_Flip p_s_L x2 3) (fun r1 =>
  if r1.1 then
  j2 x1 r1.2
  else
  Option.bind (Stream_Pick p_s_L r1.2 [5900, 6000, 5800]) (fun r2 =>
  Option.bind (Stream_Range p_s_L r2.2 0 6) (fun r3 =>
  Option.bind (Stream_Pick p_s_L r3.2 [0, 2, 9]) (fun r4 =>
  Option.bind (Stream_Flip p_s_L r4.2 40) (fun r5 =>
  Join (fun (x5 : ByteArray) (x6 : Int) (x7 : Int) (x8 : Int) (x9 : Int) =>
  Chk (room x1.length) (
  j2 (x1 ++ [(GStandard.mk x5 x6 x7 x8)]) x9)) (fun j3 =>
  if r5.1 then
  Option.bind (Stream_Some p_s_L r5.2 [y1, k_empty, k_aa]) (fun r6 =>
  Option.bind (Stream_Odd p_s_L r6.2 1 6000) (fun r7 =>
  Option.bind (Stream_Odd p_s_L r7.2 0 5) (fun r8 =>
  Option.bind (Stream_Odd p_s_L r8.2 0 9) (fun r9 =>
  j3 r6.1 r7.1 r8.1 r9.1 r9.2))))
  else
  j3 y1 r2.1 r3.1 (W (r3.1 + r4.1)) r5.2)))))))
def Stream_Standards (p_s_L : List Int) (p_s_at : Int) : Option ((List GStandard) × Int) :=
  Join (fun (x1 : List GStandard) (x2 : Int) =>
  some (x1, x2)) (fun j1 =>
  Stream_Standards_l1 p_s_L j1 ([k_ra, k_ra, k_rb] : List ByteArray) 0 ([] : List GStandard) p_s_at)
def strings_Trim (s c : ByteArray) : Option ByteArray :=
  Chk (decide (s.size ≤ 9223372036854775807)) (Chk (decide (c.size < 4294967281)) (Chk (c.data.toList.all fun b => decide (b.toNat < 128)) (some ⟨(Lib.trimS s.data.toList c.data.toList).toArray⟩)))
def words_IsKey (p_s : ByteArray) : Option Bool :=
  Join (fun (c1 : Bool) =>
  Join (fun (c2 : Bool) =>
  Join (fun (c3 : Bool) =>
  some c3) (fun j3 =>
  if c2 then Option.bind (strings_Trim p_s k_abcdefghijkl_h0e2e2c) (fun r1 =>
  j3 (c2 && (decide (r1 = k_empty)))) else j3 (c2 && true))) (fun j2 =>
  if c1 then Chk (inB 0 p_s.size) (
  j2 (c1 && (decide ((sbyte p_s 0) ≤ 122)))) else j2 (c1 && true))) (fun j1 =>
  if ((decide (1 ≤ (p_s.size : Int))) && (decide ((p_s.size : Int) ≤ 40))) then Chk (inB 0 p_s.size) (
  j1 (((decide (1 ≤ (p_s.size : Int))) && (decide ((p_s.size : Int) ≤ 40))) && (decide (97 ≤ (sbyte p_s 0))))) else j1 (((decide (1 ≤ (p_s.size : Int))) && (decide ((p_s.size : Int) ≤ 40))) && true))
def words_Within (p_n : Int) (p_low : Int) (p_high : Int) : Bool :=
  ((decide (p_low ≤ p_n)) && (decide (p_n ≤ p_high)))
def swimmer_isDay (p_n : Int) : Bool :=
  (words_Within p_n (-40000) 4000)
def timing_IsTime (p_n : Int) : Bool :=
  (words_Within p_n 1 360000)
def swimmer_CheckMarks_l1 (j1 : Option Int) : List GMark → Nat → Option Int
  | [], _ => j1
  | y1 :: ys1, i1 => Option.bind (words_IsKey y1.Who) (fun r1 =>
  Join (fun (c1 : Bool) =>
  if c1 then
  some 5
  else
  if ((!(swimmer_isDay y1.Day)) || (!(timing_IsTime y1.Time))) then
  some 1
  else
  swimmer_CheckMarks_l1 j1 ys1 (i1 + 1)) (fun j2 =>
  if (!r1) then j2 ((!r1) || true) else Option.bind (words_IsKey y1.Race) (fun r2 =>
  j2 ((!r1) || (!r2)))))
def swimmer_CheckMarks (p_l : List GMark) : Option Int :=
  if decide (2000 < (p_l.length : Int)) then
  some 2
  else
  Join (some 0) (fun j1 =>
  swimmer_CheckMarks_l1 j1 p_l 0)
def cmp_isNaN_int (p_x : Int) : Bool :=
  !decide (p_x = p_x)
def cmp_Compare_int (p_x : Int) (p_y : Int) : Int :=
  if (cmp_isNaN_int p_x) then
  if (cmp_isNaN_int p_y) then
  0
  else
  (-1)
  else
  if (cmp_isNaN_int p_y) then
  1
  else
  if decide (p_x < p_y) then
  (-1)
  else
  if decide (p_y < p_x) then
  1
  else
  0
def cmp_Or_int_l1 (j1 : Int) : List Int → Nat → Int
  | [], _ => j1
  | y1 :: ys1, i1 => if !decide (y1 = 0) then
  y1
  else
  cmp_Or_int_l1 j1 ys1 (i1 + 1)
def cmp_Or_int (p_vals : List Int) : Int :=
  Join (0) (fun j1 =>
  cmp_Or_int_l1 j1 p_vals 0)
def swimmer_best_l1 (p_race : ByteArray) (p_who : ByteArray) (p_from : Int) (p_to : Int) (j1 : ByteArray → ByteArray → Int → Int → Bool → (GMark × Bool)) : List GMark → Nat → ByteArray → ByteArray → Int → Int → Bool → (GMark × Bool)
  | [], _, x1, x2, x3, x4, x5 => j1 x1 x2 x3 x4 x5
  | y1 :: ys1, i1, x1, x2, x3, x4, x5 => Join (fun (x6 : ByteArray) (x7 : ByteArray) (x8 : Int) (x9 : Int) (x10 : Bool) =>
  swimmer_best_l1 p_race p_who p_from p_to j1 ys1 (i1 + 1) x6 x7 x8 x9 x10) (fun j2 =>
  if ((((!decide (y1.Race = p_race)) || (!decide (y1.Who = p_who))) || (decide (y1.Day < p_from))) || (decide (p_to < y1.Day))) then
  j2 x1 x2 x3 x4 x5
  else
  Join (fun (x11 : Bool) =>
  Join (fun (x12 : ByteArray) (x13 : ByteArray) (x14 : Int) (x15 : Int) (x16 : Bool) =>
  j2 x12 x13 x14 x15 x16) (fun j4 =>
  if x11 then
  j4 y1.Who y1.Race y1.Day y1.Time true
  else
  j4 x1 x2 x3 x4 x5)) (fun j3 =>
  if !x5 then
  j3 true
  else
  j3 (decide ((cmp_Or_int [(cmp_Compare_int y1.Time x4), (cmp_Compare_int y1.Day x3)]) < 0))))
def swimmer_best (p_l : List GMark) (p_race : ByteArray) (p_who : ByteArray) (p_from : Int) (p_to : Int) : (GMark × Bool) :=
  Join (fun (x1 : ByteArray) (x2 : ByteArray) (x3 : Int) (x4 : Int) (x5 : Bool) =>
  ((GMark.mk x1 x2 x3 x4), x5)) (fun j1 =>
  swimmer_best_l1 p_race p_who p_from p_to j1 p_l 0 k_empty k_empty 0 0 false)
def swimmer_Best (p_l : List GMark) (p_race : ByteArray) (p_who : ByteArray) (p_from : Int) (p_to : Int) : Option (GMark × Bool × Int) :=
  Option.bind (swimmer_CheckMarks p_l) (fun r1 =>
  if !decide (r1 = 0) then
  some ((GMark.mk k_empty k_empty 0 0), false, r1)
  else
  Option.bind (words_IsKey p_race) (fun r2 =>
  Join (fun (c1 : Bool) =>
  if c1 then
  some ((GMark.mk k_empty k_empty 0 0), false, 5)
  else
  if ((!(words_Within p_from (-40000) p_to)) || (decide (4000 < p_to))) then
  some ((GMark.mk k_empty k_empty 0 0), false, 1)
  else
  some (((swimmer_best p_l p_race p_who p_from p_to).1), (swimmer_best p_l p_race p_who p_from p_to).2, 0)) (fun j1 =>
  if (!r2) then j1 ((!r2) || true) else Option.bind (words_IsKey p_who) (fun r3 =>
  j1 ((!r2) || (!r3))))))
def swimmer_CheckStandards_l1 (p_l : List GStandard) (j1 : Option Int) : List GStandard → Nat → Option Int
  | [], _ => j1
  | y1 :: ys1, i1 => Option.bind (words_IsKey y1.Race) (fun r1 =>
  if !r1 then
  some 5
  else
  if (((!(timing_IsTime y1.Time)) || (!(words_Within y1.From (-40000) y1.To))) || (decide (4000 < y1.To))) then
  some 1
  else
  Join (fun (c1 : Bool) =>
  if c1 then
  some 7
  else
  swimmer_CheckStandards_l1 p_l j1 ys1 (i1 + 1)) (fun j2 =>
  if (decide (0 < (i1 : Int))) then Chk (inB (W ((i1 : Int) - 1)) p_l.length) (
  j2 ((decide (0 < (i1 : Int))) && (Sless y1.Race ((nth p_l (W ((i1 : Int) - 1))).Race)))) else j2 ((decide (0 < (i1 : Int))) && true)))
def swimmer_CheckStandards (p_l : List GStandard) : Option Int :=
  if decide (200 < (p_l.length : Int)) then
  some 2
  else
  Join (some 0) (fun j1 =>
  swimmer_CheckStandards_l1 p_l j1 p_l 0)
def swimmer_Qualified_l1 (p_race : ByteArray) (p_m : List GMark) (p_who : ByteArray) (j2 : Bool → Option (Bool × Int)) : List GStandard → Nat → Bool → Option (Bool × Int)
  | [], _, x1 => j2 x1
  | y1 :: ys1, i1, x1 => Join (fun (x2 : Bool) =>
  swimmer_Qualified_l1 p_race p_m p_who j2 ys1 (i1 + 1) x2) (fun j3 =>
  if !decide (y1.Race = p_race) then
  j3 x1
  else
  if (((swimmer_best p_m p_race p_who y1.From y1.To).2) && (decide ((((swimmer_best p_m p_race p_who y1.From y1.To).1).Time) ≤ y1.Time))) then
  some (true, 0)
  else
  j3 false)
def swimmer_Qualified (p_l : List GStandard) (p_m : List GMark) (p_race : ByteArray) (p_who : ByteArray) : Option (Bool × Int) :=
  Option.bind (swimmer_CheckStandards p_l) (fun r1 =>
  if !decide (r1 = 0) then
  some (false, r1)
  else
  Option.bind (swimmer_CheckMarks p_m) (fun r2 =>
  if !decide (r2 = 0) then
  some (false, r2)
  else
  Option.bind (words_IsKey p_race) (fun r3 =>
  Join (fun (c1 : Bool) =>
  if c1 then
  some (false, 5)
  else
  Join (fun (x1 : Bool) =>
  some (x1, 0)) (fun j2 =>
  swimmer_Qualified_l1 p_race p_m p_who j2 p_l 0 true)) (fun j1 =>
  if (!r3) then j1 ((!r3) || true) else Option.bind (words_IsKey p_who) (fun r4 =>
  j1 ((!r3) || (!r4)))))))
def tumbref2_in (p_n : Int) (p_low : Int) (p_high : Int) : Bool :=
  ((decide (p_low ≤ p_n)) && (decide (p_n ≤ p_high)))
def strings_IndexByte (s : ByteArray) (c : Int) : Int := Lib.indexByte s.data.toList c.toNat.toUInt8
def tumbref2_only_l1 (p_s : ByteArray) (p_some : ByteArray) (j1 : Option Bool) : Nat → Int → Option Bool
  | 0, _ => none
  | m1 + 1, x1 => if decide (x1 < (p_s.size : Int)) then
  Chk (inB x1 p_s.size) (
  if decide ((strings_IndexByte p_some (sbyte p_s x1)) < 0) then
  some false
  else
  tumbref2_only_l1 p_s p_some j1 m1 (W (x1 + 1)))
  else
  j1
def tumbref2_only (p_s : ByteArray) (p_some : ByteArray) : Option Bool :=
  Join (some true) (fun j1 =>
  tumbref2_only_l1 p_s p_some j1 (((p_s.size : Int) - 0).toNat + 2) 0)
def tumbref2_Key (p_s : ByteArray) : Option Bool :=
  Join (fun (c1 : Bool) =>
  Join (fun (c2 : Bool) =>
  some c2) (fun j2 =>
  if c1 then Option.bind (tumbref2_only p_s k_abcdefghijkl_h0e2e2c) (fun r2 =>
  j2 (c1 && r2)) else j2 (c1 && true))) (fun j1 =>
  if (tumbref2_in (p_s.size : Int) 1 40) then Chk (cutB 0 1 p_s.size) (
  Option.bind (tumbref2_only (scut p_s 0 1) k_abcdefghijklmnopqrstuvwxyz) (fun r1 =>
  j1 ((tumbref2_in (p_s.size : Int) 1 40) && r1))) else j1 ((tumbref2_in (p_s.size : Int) 1 40) && true))
def tumbref2_Day (p_n : Int) : Bool :=
  (tumbref2_in p_n (-40000) 4000)
def tumbref2_MarksFault_l1 (j1 : Option Int) : List GMark → Nat → Option Int
  | [], _ => j1
  | y1 :: ys1, i1 => Option.bind (tumbref2_Key y1.Who) (fun r1 =>
  Join (fun (c1 : Bool) =>
  if c1 then
  some 5
  else
  if ((!(tumbref2_Day y1.Day)) || (!(tumbref2_in y1.Time 1 360000))) then
  some 1
  else
  tumbref2_MarksFault_l1 j1 ys1 (i1 + 1)) (fun j2 =>
  if (!r1) then j2 ((!r1) || true) else Option.bind (tumbref2_Key y1.Race) (fun r2 =>
  j2 ((!r1) || (!r2)))))
def tumbref2_MarksFault (p_l : List GMark) : Option Int :=
  if decide (2000 < (p_l.length : Int)) then
  some 2
  else
  Join (some 0) (fun j1 =>
  tumbref2_MarksFault_l1 j1 p_l 0)
def tumblaw2_when (p_is : Bool) (p_e : Int) : Int :=
  if p_is then
  p_e
  else
  0
def tumblaw2_nameFault (p_s : ByteArray) : Option Int :=
  Option.bind (tumbref2_Key p_s) (fun r1 =>
  some (tumblaw2_when (!r1) 5))
def tumblaw2_errs_l1 (j1 : Int) : List Int → Nat → Int
  | [], _ => j1
  | y1 :: ys1, i1 => if !decide (y1 = 0) then
  y1
  else
  tumblaw2_errs_l1 j1 ys1 (i1 + 1)
def tumblaw2_errs (p_l : List Int) : Int :=
  Join (0) (fun j1 =>
  tumblaw2_errs_l1 j1 p_l 0)
def tumbref2_StandardsFault_l1 (j1 : Option Int) : List GStandard → Nat → ByteArray → Option Int
  | [], _, _ => j1
  | y1 :: ys1, i1, x1 => Option.bind (tumbref2_Key y1.Race) (fun r1 =>
  if !r1 then
  some 5
  else
  if (((!(tumbref2_in y1.Time 1 360000)) || (!(tumbref2_in y1.From (-40000) y1.To))) || (decide (4000 < y1.To))) then
  some 1
  else
  if Sless y1.Race x1 then
  some 7
  else
  tumbref2_StandardsFault_l1 j1 ys1 (i1 + 1) y1.Race)
def tumbref2_StandardsFault (p_l : List GStandard) : Option Int :=
  if decide (200 < (p_l.length : Int)) then
  some 2
  else
  Join (some 0) (fun j1 =>
  tumbref2_StandardsFault_l1 j1 p_l 0 k_empty)
def slices_Clone_Mark (p_s : List GMark) : Option (List GMark) :=
  Chk (decide ((([] : List GMark) : List GMark).length + p_s.length < 1073741824)) (
  some ((([] : List GMark) : List GMark) ++ p_s))
def tumbref2_BestMark_c1 (p_m : GMark) (p_a1 : ByteArray) (p_a2 : ByteArray) (p_a3 : Int) (p_a4 : Int) : Bool :=
  (((!decide (p_m.Race = p_a1)) || (!decide (p_m.Who = p_a2))) || (!(tumbref2_in p_m.Day p_a3 p_a4)))
def slices_IndexFunc_Mark_tumbref2_BestMark_c1_l1 (p_f_0 : ByteArray) (p_f_1 : ByteArray) (p_f_2 : Int) (p_f_3 : Int) (j1 : Int) : List GMark → Nat → Int
  | [], _ => j1
  | y1 :: ys1, i1 => if (tumbref2_BestMark_c1 y1 p_f_0 p_f_1 p_f_2 p_f_3) then
  (i1 : Int)
  else
  slices_IndexFunc_Mark_tumbref2_BestMark_c1_l1 p_f_0 p_f_1 p_f_2 p_f_3 j1 ys1 (i1 + 1)
def slices_IndexFunc_Mark_tumbref2_BestMark_c1 (p_s : List GMark) (p_f_0 : ByteArray) (p_f_1 : ByteArray) (p_f_2 : Int) (p_f_3 : Int) : Int :=
  Join ((-1)) (fun j1 =>
  slices_IndexFunc_Mark_tumbref2_BestMark_c1_l1 p_f_0 p_f_1 p_f_2 p_f_3 j1 p_s 0)
def slices_DeleteFunc_Mark_tumbref2_BestMark_c1_l1 (p_del_0 : ByteArray) (p_del_1 : ByteArray) (p_del_2 : Int) (p_del_3 : Int) (j1 : (List GMark) → Int → Option (List GMark)) : Nat → (List GMark) → Int → Int → Option (List GMark)
  | 0, _, _, _ => none
  | m1 + 1, x1, x2, x3 => if decide (x3 < (x1.length : Int)) then
  Join (fun (x4 : List GMark) (x5 : Int) =>
  slices_DeleteFunc_Mark_tumbref2_BestMark_c1_l1 p_del_0 p_del_1 p_del_2 p_del_3 j1 m1 x4 x5 (W (x3 + 1))) (fun j2 =>
  Chk (inB x3 x1.length) (
  Join (fun (x6 : List GMark) (x7 : Int) =>
  j2 x6 x7) (fun j3 =>
  if !(tumbref2_BestMark_c1 (nth x1 x3) p_del_0 p_del_1 p_del_2 p_del_3) then
  Chk (inB x2 x1.length) (
  j3 (x1.set x2.toNat (nth x1 x3)) (W (x2 + 1)))
  else
  j3 x1 x2)))
  else
  j1 x1 x2
def slices_DeleteFunc_Mark_tumbref2_BestMark_c1 (p_s : List GMark) (p_del_0 : ByteArray) (p_del_1 : ByteArray) (p_del_2 : Int) (p_del_3 : Int) : Option (List GMark) :=
  if decide ((slices_IndexFunc_Mark_tumbref2_BestMark_c1 p_s p_del_0 p_del_1 p_del_2 p_del_3) = (-1)) then
  some p_s
  else
  Join (fun (x1 : List GMark) (x2 : Int) =>
  Chk (cutB x2 (x1.length : Int) x1.length) (
  Chk (cutB 0 x2 (clr x1 x2 (x1.length : Int) (GMark.mk k_empty k_empty 0 0)).length) (
  some (cut (clr x1 x2 (x1.length : Int) (GMark.mk k_empty k_empty 0 0)) (0 : Int) x2)))) (fun j1 =>
  slices_DeleteFunc_Mark_tumbref2_BestMark_c1_l1 p_del_0 p_del_1 p_del_2 p_del_3 j1 (((p_s.length : Int) - (W ((slices_IndexFunc_Mark_tumbref2_BestMark_c1 p_s p_del_0 p_del_1 p_del_2 p_del_3) + 1))).toNat + 2) p_s (slices_IndexFunc_Mark_tumbref2_BestMark_c1 p_s p_del_0 p_del_1 p_del_2 p_del_3) (W ((slices_IndexFunc_Mark_tumbref2_BestMark_c1 p_s p_del_0 p_del_1 p_del_2 p_del_3) + 1)))
def slices_Compare_int_l1 (p_s2 : List Int) (j1 : Option Int) : List Int → Nat → Option Int
  | [], _ => j1
  | y1 :: ys1, i1 => if decide ((p_s2.length : Int) ≤ (i1 : Int)) then
  some 1
  else
  Chk (inB (i1 : Int) p_s2.length) (
  if !decide ((cmp_Compare_int y1 (nth p_s2 (i1 : Int))) = 0) then
  some (cmp_Compare_int y1 (nth p_s2 (i1 : Int)))
  else
  slices_Compare_int_l1 p_s2 j1 ys1 (i1 + 1))
def slices_Compare_int (p_s1 : List Int) (p_s2 : List Int) : Option Int :=
  Join (if decide ((p_s1.length : Int) < (p_s2.length : Int)) then
  some (-1)
  else
  some 0) (fun j1 =>
  slices_Compare_int_l1 p_s2 j1 p_s1 0)
def tumbref2_BestMark_c2 (p_a : GMark) (p_b : GMark) : Option Int :=
  Option.bind (slices_Compare_int [p_a.Time, p_a.Day] [p_b.Time, p_b.Day]) (fun r1 =>
  some r1)
def slices_insertionSortCmpFunc_Mark_tumbref2_BestMark_c2_l2 (p_a : Int) (j2 : (List GMark) → Option (List GMark)) : Nat → (List GMark) → Int → Option (List GMark)
  | 0, _, _ => none
  | m2 + 1, x3, x4 => Join (fun (x5 : Bool) =>
  if x5 then
  Chk (inB (W (x4 - 1)) x3.length) (
  Chk (inB x4 x3.length) (
  Chk (inB x4 x3.length) (
  Chk (inB (W (x4 - 1)) (x3.set x4.toNat (nth x3 (W (x4 - 1)))).length) (
  slices_insertionSortCmpFunc_Mark_tumbref2_BestMark_c2_l2 p_a j2 m2 ((x3.set x4.toNat (nth x3 (W (x4 - 1)))).set ((W (x4 - 1)).toNat) (nth x3 x4)) (W (x4 - 1))))))
  else
  j2 x3) (fun j3 =>
  if decide (p_a < x4) then
  Chk (inB x4 x3.length) (
  Chk (inB (W (x4 - 1)) x3.length) (
  Option.bind (tumbref2_BestMark_c2 (nth x3 x4) (nth x3 (W (x4 - 1)))) (fun r1 =>
  j3 (decide (r1 < 0)))))
  else
  j3 false)
def slices_insertionSortCmpFunc_Mark_tumbref2_BestMark_c2_l1 (p_b : Int) (p_a : Int) (j1 : (List GMark) → Option (List GMark)) : Nat → (List GMark) → Int → Option (List GMark)
  | 0, _, _ => none
  | m1 + 1, x1, x2 => if decide (x2 < p_b) then
  Join (fun (x3 : List GMark) =>
  slices_insertionSortCmpFunc_Mark_tumbref2_BestMark_c2_l1 p_b p_a j1 m1 x3 (W (x2 + 1))) (fun j2 =>
  slices_insertionSortCmpFunc_Mark_tumbref2_BestMark_c2_l2 p_a j2 ((x2 - p_a).toNat + 2) x1 x2)
  else
  j1 x1
def slices_insertionSortCmpFunc_Mark_tumbref2_BestMark_c2 (p_data : List GMark) (p_a : Int) (p_b : Int) : Option (List GMark) :=
  Join (fun (x1 : List GMark) =>
  some x1) (fun j1 =>
  slices_insertionSortCmpFunc_Mark_tumbref2_BestMark_c2_l1 p_b p_a j1 ((p_b - (W (p_a + 1))).toNat + 2) p_data (W (p_a + 1)))
def slices_stableCmpFunc_Mark_tumbref2_BestMark_c2_l1 (p_n : Int) (j1 : (List GMark) → Int → Option (List GMark)) : Nat → (List GMark) → Int → Int → Option (List GMark)
  | 0, _, _, _ => none
  | m1 + 1, x1, x2, x3 => if decide (x3 ≤ p_n) then
  Option.bind (slices_insertionSortCmpFunc_Mark_tumbref2_BestMark_c2 x1 x2 x3) (fun r1 =>
  slices_stableCmpFunc_Mark_tumbref2_BestMark_c2_l1 p_n j1 m1 r1 x3 (W (x3 + 20)))
  else
  j1 x1 x2
def slices_stableCmpFunc_Mark_tumbref2_BestMark_c2_l3 (p_n : Int) (j3 : Int → Option (List GMark)) : Nat → Int → Int → Option (List GMark)
  | 0, _, _ => none
  | _ + 1, x5, x6 => if decide (x6 ≤ p_n) then
  none
  else
  j3 x5
def slices_stableCmpFunc_Mark_tumbref2_BestMark_c2_l2 (p_n : Int) (j2 : Option (List GMark)) : Nat → Int → Option (List GMark)
  | 0, _ => none
  | m2 + 1, x4 => if decide (x4 < p_n) then
  Join (fun (x5 : Int) =>
  if decide ((W (x5 + x4)) < p_n) then
  none
  else
  slices_stableCmpFunc_Mark_tumbref2_BestMark_c2_l2 p_n j2 m2 (W (x4 * 2))) (fun j3 =>
  slices_stableCmpFunc_Mark_tumbref2_BestMark_c2_l3 p_n j3 ((p_n - (W (2 * x4))).toNat + 2) 0 (W (2 * x4)))
  else
  j2
def slices_stableCmpFunc_Mark_tumbref2_BestMark_c2 (p_data : List GMark) (p_n : Int) : Option (List GMark) :=
  Join (fun (x1 : List GMark) (x2 : Int) =>
  Option.bind (slices_insertionSortCmpFunc_Mark_tumbref2_BestMark_c2 x1 x2 p_n) (fun r2 =>
  Join (some r2) (fun j2 =>
  slices_stableCmpFunc_Mark_tumbref2_BestMark_c2_l2 p_n j2 ((p_n - 20).toNat + 2) 20))) (fun j1 =>
  slices_stableCmpFunc_Mark_tumbref2_BestMark_c2_l1 p_n j1 ((p_n - 20).toNat + 2) p_data 0 20)
def slices_SortStableFunc_Mark_tumbref2_BestMark_c2 (p_x : List GMark) : Option (List GMark) :=
  Option.bind (slices_stableCmpFunc_Mark_tumbref2_BestMark_c2 p_x (p_x.length : Int)) (fun r1 =>
  some r1)
def tumbref2_BestMark (p_l : List GMark) (p_race : ByteArray) (p_who : ByteArray) (p_from : Int) (p_to : Int) : Option (GMark × Bool) :=
  Option.bind (slices_Clone_Mark p_l) (fun r1 =>
  Option.bind (slices_DeleteFunc_Mark_tumbref2_BestMark_c1 r1 p_race p_who p_from p_to) (fun r2 =>
  if decide ((r2.length : Int) = 0) then
  some ((GMark.mk k_empty k_empty 0 0), false)
  else
  Option.bind (slices_SortStableFunc_Mark_tumbref2_BestMark_c2 r2) (fun r3 =>
  Chk (inB 0 r3.length) (
  some ((nth r3 0), true)))))
def tumbref2_QualifiedOf_l1 (p_race : ByteArray) (p_m : List GMark) (p_who : ByteArray) (j1 : Bool → Option Bool) : List GStandard → Nat → Bool → Option Bool
  | [], _, x1 => j1 x1
  | y1 :: ys1, i1, x1 => Join (fun (x2 : Bool) =>
  tumbref2_QualifiedOf_l1 p_race p_m p_who j1 ys1 (i1 + 1) x2) (fun j2 =>
  if !decide (y1.Race = p_race) then
  j2 x1
  else
  Option.bind (tumbref2_BestMark p_m p_race p_who y1.From y1.To) (fun r1 =>
  if (r1.2 && (decide (r1.1.Time ≤ y1.Time))) then
  some true
  else
  j2 false))
def tumbref2_QualifiedOf (p_l : List GStandard) (p_m : List GMark) (p_race : ByteArray) (p_who : ByteArray) : Option Bool :=
  Join (fun (x1 : Bool) =>
  some x1) (fun j1 =>
  tumbref2_QualifiedOf_l1 p_race p_m p_who j1 p_l 0 true)
def swimmer_leap (p_year : Int) : Bool :=
  ((decide ((Int.tmod p_year 4) = 0)) && ((!decide ((Int.tmod p_year 100) = 0)) || (decide ((Int.tmod p_year 400) = 0))))
def swimmer_long (p_year : Int) (p_month : Int) : Int :=
  if decide (p_month = 2) then
  if (swimmer_leap p_year) then
  29
  else
  28
  else
  Join (fun (x1 : Bool) =>
  if x1 then
  30
  else
  31) (fun j1 =>
  if decide (p_month = 4) then
  j1 (decide (p_month = 4))
  else
  Join (fun (x2 : Bool) =>
  j1 x2) (fun j2 =>
  if decide (p_month = 6) then
  j2 (decide (p_month = 6))
  else
  Join (fun (x3 : Bool) =>
  j2 x3) (fun j3 =>
  if decide (p_month = 9) then
  j3 (decide (p_month = 9))
  else
  j3 (decide (p_month = 11)))))
def swimmer_yearLong (p_year : Int) : Int :=
  if (swimmer_leap p_year) then
  366
  else
  365
def swimmer_DayOf_l1 (p_d : GDate) (j2 : Int → Option (Int × Int)) : Nat → Int → Int → Option (Int × Int)
  | 0, _, _ => none
  | m1 + 1, x2, x3 => if decide (x3 < p_d.Month) then
  swimmer_DayOf_l1 p_d j2 m1 (W (x2 + (swimmer_long p_d.Year x3))) (W (x3 + 1))
  else
  j2 x2
def swimmer_DayOf_l2 (p_d : GDate) (j3 : Int → Option (Int × Int)) : Nat → Int → Int → Option (Int × Int)
  | 0, _, _ => none
  | m2 + 1, x4, x5 => if decide (x5 < p_d.Year) then
  swimmer_DayOf_l2 p_d j3 m2 (W (x4 + (swimmer_yearLong x5))) (W (x5 + 1))
  else
  j3 x4
def swimmer_DayOf_l3 (j4 : Int → Option (Int × Int)) : Nat → Int → Int → Option (Int × Int)
  | 0, _, _ => none
  | m3 + 1, x6, x7 => if decide (x7 < 2024) then
  swimmer_DayOf_l3 j4 m3 (W (x6 - (swimmer_yearLong x7))) (W (x7 + 1))
  else
  j4 x6
def swimmer_DayOf (p_d : GDate) : Option (Int × Int) :=
  Join (fun (x1 : Bool) =>
  if x1 then
  some (0, 1)
  else
  Join (fun (x2 : Int) =>
  Join (fun (x4 : Int) =>
  Join (fun (x6 : Int) =>
  if !(swimmer_isDay x6) then
  some (0, 1)
  else
  some (x6, 0)) (fun j4 =>
  swimmer_DayOf_l3 j4 ((2024 - p_d.Year).toNat + 2) x4 p_d.Year)) (fun j3 =>
  swimmer_DayOf_l2 p_d j3 ((p_d.Year - 2024).toNat + 2) x2 2024)) (fun j2 =>
  swimmer_DayOf_l1 p_d j2 ((p_d.Month - 1).toNat + 2) (W (p_d.Day - 1)) 1)) (fun j1 =>
  if !(words_Within p_d.Year 1900 2100) then
  if true then
  j1 true
  else
  j1 (!(words_Within p_d.Day 1 (swimmer_long p_d.Year p_d.Month)))
  else
  if !(words_Within p_d.Month 1 12) then
  j1 true
  else
  j1 (!(words_Within p_d.Day 1 (swimmer_long p_d.Year p_d.Month))))
def tumblaw2_dated : Option Bool :=
  Option.bind (swimmer_DayOf (GDate.mk 2024 3 1)) (fun r1 =>
  some ((decide (r1.2 = 0)) && (decide (r1.1 = 60))))
def tumblaw2_TimesQualify (p_l : List Int) : Option Bool :=
  Option.bind (Stream_Range p_l 0 0 8) (fun r1 =>
  Option.bind (Stream_Marks p_l r1.2 r1.1) (fun r2 =>
  Option.bind (Stream_Standards p_l r2.2) (fun r3 =>
  Option.bind (Stream_Some p_l r3.2 [k_ra, k_ra, k_rb, k_rz, k_empty]) (fun r4 =>
  Option.bind (Stream_Some p_l r4.2 [k_ann, k_ann, k_bea, k_A]) (fun r5 =>
  Option.bind (Stream_Pick p_l r5.2 [0, 2, 5, (-40001)]) (fun r6 =>
  Option.bind (Stream_Pick p_l r6.2 [3, 9, 1, 4001]) (fun r7 =>
  Option.bind (swimmer_Best r2.1 r4.1 r5.1 r6.1 r7.1) (fun r8 =>
  Option.bind (swimmer_Qualified r3.1 r2.1 r4.1 r5.1) (fun r9 =>
  Option.bind (tumbref2_MarksFault r2.1) (fun r10 =>
  Option.bind (tumblaw2_nameFault r4.1) (fun r11 =>
  Option.bind (tumblaw2_nameFault r5.1) (fun r12 =>
  Option.bind (tumbref2_StandardsFault r3.1) (fun r13 =>
  Option.bind (tumblaw2_nameFault r4.1) (fun r14 =>
  Option.bind (tumblaw2_nameFault r5.1) (fun r15 =>
  Join (fun (x1 : ByteArray) (x2 : ByteArray) (x3 : Int) (x4 : Int) (x5 : Bool) =>
  Option.bind (swimmer_CheckMarks r2.1) (fun r17 =>
  Join (fun (c1 : Bool) =>
  Join (fun (c2 : Bool) =>
  Join (fun (c4 : Bool) =>
  some c4) (fun j5 =>
  if c2 then Option.bind (tumblaw2_dated) (fun r21 =>
  j5 (c2 && r21)) else j5 (c2 && true))) (fun j3 =>
  if ((((c1 && (decide (r8.2.2 = (tumblaw2_errs [r10, r11, r12, (tumblaw2_when (((decide (r6.1 < (-40000))) || (decide (r7.1 < r6.1))) || (decide (4000 < r7.1))) 1)])))) && (decide (r8.1 = (GMark.mk x1 x2 x3 x4)))) && (decide (r8.2.1 = x5))) && (decide (r9.2 = (tumblaw2_errs [r13, r10, r14, r15])))) then Join (fun (c3 : Bool) =>
  j3 (((((c1 && (decide (r8.2.2 = (tumblaw2_errs [r10, r11, r12, (tumblaw2_when (((decide (r6.1 < (-40000))) || (decide (r7.1 < r6.1))) || (decide (4000 < r7.1))) 1)])))) && (decide (r8.1 = (GMark.mk x1 x2 x3 x4)))) && (decide (r8.2.1 = x5))) && (decide (r9.2 = (tumblaw2_errs [r13, r10, r14, r15])))) && (decide (r9.1 = c3)))) (fun j4 =>
  if (decide ((tumblaw2_errs [r13, r10, r14, r15]) = 0)) then Option.bind (tumbref2_QualifiedOf r3.1 r2.1 r4.1 r5.1) (fun r20 =>
  j4 ((decide ((tumblaw2_errs [r13, r10, r14, r15]) = 0)) && r20)) else j4 ((decide ((tumblaw2_errs [r13, r10, r14, r15]) = 0)) && true)) else j3 (((((c1 && (decide (r8.2.2 = (tumblaw2_errs [r10, r11, r12, (tumblaw2_when (((decide (r6.1 < (-40000))) || (decide (r7.1 < r6.1))) || (decide (4000 < r7.1))) 1)])))) && (decide (r8.1 = (GMark.mk x1 x2 x3 x4)))) && (decide (r8.2.1 = x5))) && (decide (r9.2 = (tumblaw2_errs [r13, r10, r14, r15])))) && true))) (fun j2 =>
  if (decide (r17 = r10)) then Option.bind (swimmer_CheckStandards r3.1) (fun r18 =>
  Option.bind (tumbref2_StandardsFault r3.1) (fun r19 =>
  j2 ((decide (r17 = r10)) && (decide (r18 = r19))))) else j2 ((decide (r17 = r10)) && true)))) (fun j1 =>
  if decide ((tumblaw2_errs [r10, r11, r12, (tumblaw2_when (((decide (r6.1 < (-40000))) || (decide (r7.1 < r6.1))) || (decide (4000 < r7.1))) 1)]) = 0) then
  Option.bind (tumbref2_BestMark r2.1 r4.1 r5.1 r6.1 r7.1) (fun r16 =>
  j1 r16.1.Who r16.1.Race r16.1.Day r16.1.Time r16.2)
  else
  j1 k_empty k_empty 0 0 false))))))))))))))))
/-- The loops' equations are made here, once. -/
theorem twin_eqs : True := by
  have h := @Stream_Marks_l1.eq_def; clear h; have h := @Stream_Marks_l1.eq_1; clear h; have h := @Stream_Marks_l1.eq_2; clear h
  have h := @Stream_Standards_l1.eq_def; clear h; have h := @Stream_Standards_l1.eq_1; clear h; have h := @Stream_Standards_l1.eq_2; clear h
  have h := @swimmer_CheckMarks_l1.eq_def; clear h; have h := @swimmer_CheckMarks_l1.eq_1; clear h; have h := @swimmer_CheckMarks_l1.eq_2; clear h
  have h := @cmp_Or_int_l1.eq_def; clear h; have h := @cmp_Or_int_l1.eq_1; clear h; have h := @cmp_Or_int_l1.eq_2; clear h
  have h := @swimmer_best_l1.eq_def; clear h; have h := @swimmer_best_l1.eq_1; clear h; have h := @swimmer_best_l1.eq_2; clear h
  have h := @swimmer_CheckStandards_l1.eq_def; clear h; have h := @swimmer_CheckStandards_l1.eq_1; clear h; have h := @swimmer_CheckStandards_l1.eq_2; clear h
  have h := @swimmer_Qualified_l1.eq_def; clear h; have h := @swimmer_Qualified_l1.eq_1; clear h; have h := @swimmer_Qualified_l1.eq_2; clear h
  have h := @tumbref2_only_l1.eq_def; clear h; have h := @tumbref2_only_l1.eq_1; clear h; have h := @tumbref2_only_l1.eq_2; clear h
  have h := @tumbref2_MarksFault_l1.eq_def; clear h; have h := @tumbref2_MarksFault_l1.eq_1; clear h; have h := @tumbref2_MarksFault_l1.eq_2; clear h
  have h := @tumblaw2_errs_l1.eq_def; clear h; have h := @tumblaw2_errs_l1.eq_1; clear h; have h := @tumblaw2_errs_l1.eq_2; clear h
  have h := @tumbref2_StandardsFault_l1.eq_def; clear h; have h := @tumbref2_StandardsFault_l1.eq_1; clear h; have h := @tumbref2_StandardsFault_l1.eq_2; clear h
  have h := @slices_IndexFunc_Mark_tumbref2_BestMark_c1_l1.eq_def; clear h; have h := @slices_IndexFunc_Mark_tumbref2_BestMark_c1_l1.eq_1; clear h; have h := @slices_IndexFunc_Mark_tumbref2_BestMark_c1_l1.eq_2; clear h
  have h := @slices_DeleteFunc_Mark_tumbref2_BestMark_c1_l1.eq_def; clear h; have h := @slices_DeleteFunc_Mark_tumbref2_BestMark_c1_l1.eq_1; clear h; have h := @slices_DeleteFunc_Mark_tumbref2_BestMark_c1_l1.eq_2; clear h
  have h := @slices_Compare_int_l1.eq_def; clear h; have h := @slices_Compare_int_l1.eq_1; clear h; have h := @slices_Compare_int_l1.eq_2; clear h
  have h := @slices_insertionSortCmpFunc_Mark_tumbref2_BestMark_c2_l2.eq_def; clear h; have h := @slices_insertionSortCmpFunc_Mark_tumbref2_BestMark_c2_l2.eq_1; clear h; have h := @slices_insertionSortCmpFunc_Mark_tumbref2_BestMark_c2_l2.eq_2; clear h
  have h := @slices_insertionSortCmpFunc_Mark_tumbref2_BestMark_c2_l1.eq_def; clear h; have h := @slices_insertionSortCmpFunc_Mark_tumbref2_BestMark_c2_l1.eq_1; clear h; have h := @slices_insertionSortCmpFunc_Mark_tumbref2_BestMark_c2_l1.eq_2; clear h
  have h := @slices_stableCmpFunc_Mark_tumbref2_BestMark_c2_l1.eq_def; clear h; have h := @slices_stableCmpFunc_Mark_tumbref2_BestMark_c2_l1.eq_1; clear h; have h := @slices_stableCmpFunc_Mark_tumbref2_BestMark_c2_l1.eq_2; clear h
  have h := @slices_stableCmpFunc_Mark_tumbref2_BestMark_c2_l3.eq_def; clear h; have h := @slices_stableCmpFunc_Mark_tumbref2_BestMark_c2_l3.eq_1; clear h; have h := @slices_stableCmpFunc_Mark_tumbref2_BestMark_c2_l3.eq_2; clear h
  have h := @slices_stableCmpFunc_Mark_tumbref2_BestMark_c2_l2.eq_def; clear h; have h := @slices_stableCmpFunc_Mark_tumbref2_BestMark_c2_l2.eq_1; clear h; have h := @slices_stableCmpFunc_Mark_tumbref2_BestMark_c2_l2.eq_2; clear h
  have h := @tumbref2_QualifiedOf_l1.eq_def; clear h; have h := @tumbref2_QualifiedOf_l1.eq_1; clear h; have h := @tumbref2_QualifiedOf_l1.eq_2; clear h
  have h := @swimmer_DayOf_l1.eq_def; clear h; have h := @swimmer_DayOf_l1.eq_1; clear h; have h := @swimmer_DayOf_l1.eq_2; clear h
  have h := @swimmer_DayOf_l2.eq_def; clear h; have h := @swimmer_DayOf_l2.eq_1; clear h; have h := @swimmer_DayOf_l2.eq_2; clear h
  have h := @swimmer_DayOf_l3.eq_def; clear h; have h := @swimmer_DayOf_l3.eq_1; clear h; have h := @swimmer_DayOf_l3.eq_2; clear h
  trivial
end Go.Proofs.YtfajklagapggoaaDoor
