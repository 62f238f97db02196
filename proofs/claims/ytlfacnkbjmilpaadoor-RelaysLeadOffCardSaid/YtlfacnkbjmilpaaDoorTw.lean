/- The Go functions as plain Lean functions, by program. -/
import Derived.Test.YtlfacnkbjmilpaaDoorBase
namespace Go.Proofs.YtlfacnkbjmilpaaDoor
open Go
structure GRace where
  Key : ByteArray
  Metres : Int
  Stroke : Int
  Course : Int
  Legs : Int
  Sex : Int
  Young : Int
  Old : Int
  deriving DecidableEq, Inhabited
structure GKind where
  Key : ByteArray
  Race : ByteArray
  Clubs : Unit
  Young : Int
  Old : Int
  deriving DecidableEq, Inhabited
structure GStep where
  At : Int
  Kind : Int
  Id : ByteArray
  Who : ByteArray
  Club : ByteArray
  Race : ByteArray
  Age : Int
  Time : Int
  deriving DecidableEq, Inhabited
def k_ra : ByteArray := ⟨#[114, 97]⟩
def k_empty : ByteArray := ⟨#[]⟩
def k_abcdefghijkl_h0e2e2c : ByteArray := ⟨#[97, 98, 99, 100, 101, 102, 103, 104, 105, 106, 107, 108, 109, 110, 111, 112, 113, 114, 115, 116, 117, 118, 119, 120, 121, 122, 48, 49, 50, 51, 52, 53, 54, 55, 56, 57, 45, 95]⟩
def k_abcdefghijklmnopqrstuvwxyz : ByteArray := ⟨#[97, 98, 99, 100, 101, 102, 103, 104, 105, 106, 107, 108, 109, 110, 111, 112, 113, 114, 115, 116, 117, 118, 119, 120, 121, 122]⟩
def k_k : ByteArray := ⟨#[107]⟩
def k_r : ByteArray := ⟨#[114]⟩
def k_i : ByteArray := ⟨#[105]⟩
def k_a : ByteArray := ⟨#[97]⟩
def tumbmake_Below (p_x : Int) (p_n : Int) : Option Int :=
  if decide (p_n < 1) then
  some 0
  else
  Chk (!decide (p_n = 0)) (
  Join (fun (x1 : Int) =>
  some x1) (fun j1 =>
  if decide ((Int.tmod p_x p_n) < 0) then
  j1 (W ((Int.tmod p_x p_n) + p_n))
  else
  j1 (Int.tmod p_x p_n)))
def Stream_Next (p_s_L : List Int) (p_s_at : Int) (p_n : Int) : Option (Int × Int) :=
  if decide ((p_s_L.length : Int) = 0) then
  Option.bind (tumbmake_Below (W ((W (p_s_at + 1)) * 7919)) p_n) (fun r1 =>
  some (r1, W (p_s_at + 1)))
  else
  Chk (!decide ((p_s_L.length : Int) = 0)) (
  Chk (!decide ((p_s_L.length : Int) = 0)) (
  Chk (inB (Int.tmod (W ((W (p_s_at + 1)) - 1)) (p_s_L.length : Int)) p_s_L.length) (
  Option.bind (tumbmake_Below (nth p_s_L (Int.tmod (W ((W (p_s_at + 1)) - 1)) (p_s_L.length : Int))) 1073741824) (fun r2 =>
  Option.bind (tumbmake_Below (W (r2 + (W ((W (Int.tdiv (W ((W (p_s_at + 1)) - 1)) (p_s_L.length : Int))) * (W (7919 + (Int.tmod (W ((W (p_s_at + 1)) - 1)) (p_s_L.length : Int)))))))) p_n) (fun r3 =>
  some (r3, W (p_s_at + 1)))))))
def Stream_Pick (p_s_L : List Int) (p_s_at : Int) (p_l : List Int) : Option (Int × Int) :=
  Option.bind (Stream_Next p_s_L p_s_at (p_l.length : Int)) (fun r1 =>
  Chk (inB r1.1 p_l.length) (
  some ((nth p_l r1.1), r1.2)))
def Stream_MeetRace (p_s_L : List Int) (p_s_at : Int) (p_key : ByteArray) : Option (GRace × Int) :=
  Option.bind (Stream_Pick p_s_L p_s_at [50, 100, 200]) (fun r1 =>
  Option.bind (Stream_Pick p_s_L r1.2 [1, 2, 3, 4]) (fun r2 =>
  Option.bind (Stream_Pick p_s_L r2.2 [25, 50]) (fun r3 =>
  Option.bind (Stream_Pick p_s_L r3.2 [1, 1, 1, 4]) (fun r4 =>
  Option.bind (Stream_Pick p_s_L r4.2 [0, 1, 2]) (fun r5 =>
  Option.bind (Stream_Pick p_s_L r5.2 [0, 0, 5, 10]) (fun r6 =>
  Option.bind (Stream_Pick p_s_L r6.2 [0, 5, 90]) (fun r7 =>
  some ((GRace.mk p_key r1.1 r2.1 r3.1 r4.1 r5.1 r6.1 (W (r6.1 + r7.1))), r7.2))))))))
def Stream_Flip (p_s_L : List Int) (p_s_at : Int) (p_n : Int) : Option (Bool × Int) :=
  Option.bind (Stream_Next p_s_L p_s_at p_n) (fun r1 =>
  some (decide (r1.1 = 0), r1.2))
def Stream_Range (p_s_L : List Int) (p_s_at : Int) (p_low : Int) (p_high : Int) : Option (Int × Int) :=
  if decide (p_high < p_low) then
  some (p_low, p_s_at)
  else
  Option.bind (Stream_Next p_s_L p_s_at (W ((W (p_high - p_low)) + 1))) (fun r1 =>
  some (W (p_low + r1.1), r1.2))
def Stream_Odd (p_s_L : List Int) (p_s_at : Int) (p_low : Int) (p_high : Int) : Option (Int × Int) :=
  Option.bind (Stream_Flip p_s_L p_s_at 12) (fun r1 =>
  if r1.1 then
  Option.bind (Stream_Pick p_s_L r1.2 [W (p_low - 1), W (p_high + 1), p_low, p_high, (-1099511627776), 1099511627776]) (fun r2 =>
  some (r2.1, r2.2))
  else
  Option.bind (Stream_Range p_s_L r1.2 p_low p_high) (fun r3 =>
  some (r3.1, r3.2)))
def strings_Trim (s c : ByteArray) : Option ByteArray :=
  Chk (decide (s.size ≤ 9223372036854775807)) (Chk (decide (c.size < 4294967281)) (Chk (c.data.toList.all fun b => decide (b.toNat < 128)) (some ⟨(Lib.trimS s.data.toList c.data.toList).toArray⟩)))
def words_IsKey (p_s : ByteArray) : Option Bool :=
  Join (fun (c1 : Bool) =>
  Join (fun (c2 : Bool) =>
  Join (fun (c3 : Bool) =>
  some c3) (fun j3 =>
  if c2 then Option.bind (strings_Trim p_s k_abcdefghijkl_h0e2e2c) (fun r1 =>
  j3 (c2 && (decide (r1 = k_empty)))) else j3 (c2 && true))) (fun j2 =>
  if c1 then Chk (inB 0 p_s.size) (
  j2 (c1 && (decide ((sbyte p_s 0) ≤ 122)))) else j2 (c1 && true))) (fun j1 =>
  if ((decide (1 ≤ (p_s.size : Int))) && (decide ((p_s.size : Int) ≤ 40))) then Chk (inB 0 p_s.size) (
  j1 (((decide (1 ≤ (p_s.size : Int))) && (decide ((p_s.size : Int) ≤ 40))) && (decide (97 ≤ (sbyte p_s 0))))) else j1 (((decide (1 ≤ (p_s.size : Int))) && (decide ((p_s.size : Int) ≤ 40))) && true))
def words_Within (p_n : Int) (p_low : Int) (p_high : Int) : Bool :=
  ((decide (p_low ≤ p_n)) && (decide (p_n ≤ p_high)))
def timing_CheckRace (p_r : GRace) : Option Int :=
  Option.bind (words_IsKey p_r.Key) (fun r1 =>
  if !r1 then
  some 5
  else
  if ((!(words_Within p_r.Stroke 1 5)) || (!(words_Within p_r.Sex 0 2))) then
  some 4
  else
  if (((((((!decide (p_r.Course = 25)) && (!decide (p_r.Course = 50))) || (!(words_Within p_r.Legs 1 4))) || (!(words_Within p_r.Metres 25 1500))) || (decide (p_r.Young < 0))) || (decide (p_r.Old < p_r.Young))) || (decide (120 < p_r.Old))) then
  some 1
  else
  Chk (!decide (p_r.Course = 0)) (
  if !decide ((Int.tmod p_r.Metres p_r.Course) = 0) then
  some 3
  else
  Join (fun (c1 : Bool) =>
  Join (fun (x1 : Bool) =>
  if x1 then
  some 16
  else
  some 0) (fun j2 =>
  if c1 then
  j2 c1
  else
  j2 (((decide (p_r.Stroke = 5)) && (decide (1 < p_r.Legs))) && (!decide (p_r.Legs = 4))))) (fun j1 =>
  if ((decide (p_r.Stroke = 5)) && (decide (p_r.Legs = 1))) then Chk (!decide ((W (4 * p_r.Course)) = 0)) (
  j1 (((decide (p_r.Stroke = 5)) && (decide (p_r.Legs = 1))) && (!decide ((Int.tmod p_r.Metres (W (4 * p_r.Course))) = 0)))) else j1 (((decide (p_r.Stroke = 5)) && (decide (p_r.Legs = 1))) && true))))
def timing_lengths (p_r : GRace) : Option Int :=
  Chk (!decide (p_r.Course = 0)) (
  some (W ((W (Int.tdiv p_r.Metres p_r.Course)) * p_r.Legs)))
def timing_CheckSplits_l1 (j1 : Option Int) : List Int → Nat → Int → Option Int
  | [], _, _ => j1
  | y1 :: ys1, i1, x1 => Join (fun (x2 : Int) =>
  timing_CheckSplits_l1 j1 ys1 (i1 + 1) x2) (fun j2 =>
  if !(words_Within y1 0 360000) then
  some 1
  else
  Join (fun (x3 : Int) =>
  j2 x3) (fun j3 =>
  if !decide (y1 = 0) then
  if decide (y1 ≤ x1) then
  some 7
  else
  j3 y1
  else
  j3 x1))
def timing_CheckSplits (p_r : GRace) (p_l : List Int) : Option Int :=
  Option.bind (timing_CheckRace p_r) (fun r1 =>
  if !decide (r1 = 0) then
  some r1
  else
  Option.bind (timing_lengths p_r) (fun r2 =>
  if !decide ((p_l.length : Int) = r2) then
  some 3
  else
  Join (Chk (inB (W ((p_l.length : Int) - 1)) p_l.length) (
  if decide ((nth p_l (W ((p_l.length : Int) - 1))) = 0) then
  some 8
  else
  some 0)) (fun j1 =>
  timing_CheckSplits_l1 j1 p_l 0 0)))
def record_LeadOff (p_r : GRace) (p_splits : List Int) : Option (Int × Bool × Int) :=
  Option.bind (timing_CheckSplits p_r p_splits) (fun r1 =>
  if !decide (r1 = 0) then
  some (0, false, r1)
  else
  if decide (p_r.Legs = 1) then
  some (0, false, 0)
  else
  Chk (!decide (p_r.Course = 0)) (
  Chk (inB (W ((W (Int.tdiv p_r.Metres p_r.Course)) - 1)) p_splits.length) (
  some ((nth p_splits (W ((W (Int.tdiv p_r.Metres p_r.Course)) - 1))), decide (0 < (nth p_splits (W ((W (Int.tdiv p_r.Metres p_r.Course)) - 1)))), 0))))
def tumbref1_in (p_n : Int) (p_low : Int) (p_high : Int) : Bool :=
  ((decide (p_low ≤ p_n)) && (decide (p_n ≤ p_high)))
def strings_IndexByte (s : ByteArray) (c : Int) : Int := Lib.indexByte s.data.toList c.toNat.toUInt8
def tumbref1_Key (p_s : ByteArray) : Option Bool :=
  Join (fun (c1 : Bool) =>
  Join (fun (c2 : Bool) =>
  some c2) (fun j2 =>
  if c1 then Chk (inB 0 p_s.size) (
  j2 (c1 && (decide (0 ≤ (strings_IndexByte k_abcdefghijklmnopqrstuvwxyz (sbyte p_s 0)))))) else j2 (c1 && true))) (fun j1 =>
  if (tumbref1_in (p_s.size : Int) 1 40) then Option.bind (strings_Trim p_s k_abcdefghijkl_h0e2e2c) (fun r1 =>
  j1 ((tumbref1_in (p_s.size : Int) 1 40) && (decide (r1 = k_empty)))) else j1 ((tumbref1_in (p_s.size : Int) 1 40) && true))
def tumbref1_RaceFault (p_r : GRace) : Option Int :=
  Option.bind (tumbref1_Key p_r.Key) (fun r1 =>
  if !r1 then
  some 5
  else
  if ((!(tumbref1_in p_r.Stroke 1 5)) || (!(tumbref1_in p_r.Sex 0 2))) then
  some 4
  else
  Join (fun (x1 : Bool) =>
  if x1 then
  some 1
  else
  Chk (!decide (p_r.Course = 0)) (
  if !decide ((Int.tmod p_r.Metres p_r.Course) = 0) then
  some 3
  else
  Join (fun (c1 : Bool) =>
  if c1 then
  some 16
  else
  some 0) (fun j5 =>
  if (decide (p_r.Stroke = 5)) then Join (fun (c2 : Bool) =>
  j5 ((decide (p_r.Stroke = 5)) && (c2 || ((decide (1 < p_r.Legs)) && (!decide (p_r.Legs = 4)))))) (fun j6 =>
  if (decide (p_r.Legs = 1)) then Chk (!decide ((W (4 * p_r.Course)) = 0)) (
  j6 ((decide (p_r.Legs = 1)) && (!decide ((Int.tmod p_r.Metres (W (4 * p_r.Course))) = 0)))) else j6 ((decide (p_r.Legs = 1)) && true)) else j5 ((decide (p_r.Stroke = 5)) && true)))) (fun j1 =>
  if ((!decide (p_r.Course = 25)) && (!decide (p_r.Course = 50))) then
  j1 ((!decide (p_r.Course = 25)) && (!decide (p_r.Course = 50)))
  else
  Join (fun (x2 : Bool) =>
  j1 x2) (fun j2 =>
  if !(tumbref1_in p_r.Legs 1 4) then
  j2 (!(tumbref1_in p_r.Legs 1 4))
  else
  Join (fun (x3 : Bool) =>
  j2 x3) (fun j3 =>
  if !(tumbref1_in p_r.Metres 25 1500) then
  j3 (!(tumbref1_in p_r.Metres 25 1500))
  else
  Join (fun (x4 : Bool) =>
  j3 x4) (fun j4 =>
  if !(tumbref1_in p_r.Young 0 p_r.Old) then
  j4 (!(tumbref1_in p_r.Young 0 p_r.Old))
  else
  j4 (decide (120 < p_r.Old)))))))
def tumbref1_LengthsOf (p_r : GRace) : Option Int :=
  Chk (!decide (p_r.Course = 0)) (
  some (W ((W (Int.tdiv p_r.Metres p_r.Course)) * p_r.Legs)))
def tumbref1_SplitsFault_l1 (j1 : Option Int) : List Int → Nat → Int → Option Int
  | [], _, _ => j1
  | y1 :: ys1, i1, x1 => if !(tumbref1_in y1 0 360000) then
  some 1
  else
  if ((!decide (y1 = 0)) && (decide (y1 ≤ x1))) then
  some 7
  else
  tumbref1_SplitsFault_l1 j1 ys1 (i1 + 1) (imax x1 y1)
def tumbref1_SplitsFault (p_r : GRace) (p_l : List Int) : Option Int :=
  Option.bind (tumbref1_LengthsOf p_r) (fun r1 =>
  if !decide ((p_l.length : Int) = r1) then
  some 3
  else
  Join (Chk (inB (W ((p_l.length : Int) - 1)) p_l.length) (
  if decide ((nth p_l (W ((p_l.length : Int) - 1))) = 0) then
  some 8
  else
  some 0)) (fun j1 =>
  tumbref1_SplitsFault_l1 j1 p_l 0 0))
def record_CheckKinds_l2 (j4 : Option Int) : List ByteArray → Nat → Option Int
  | [], _ => j4
  | y2 :: ys2, i2 => Option.bind (words_IsKey y2) (fun r3 =>
  if !r3 then
  some 5
  else
  Join (fun (c3 : Bool) =>
  if c3 then
  some 7
  else
  record_CheckKinds_l2 j4 ys2 (i2 + 1)) (fun j5 =>
  if (decide (0 < (i2 : Int))) then Chk (inB (W ((i2 : Int) - 1)) ([] : List ByteArray).length) (
  j5 ((decide (0 < (i2 : Int))) && (Sless y2 (nth ([] : List ByteArray) (W ((i2 : Int) - 1))) || decide (y2 = (nth ([] : List ByteArray) (W ((i2 : Int) - 1))))))) else j5 ((decide (0 < (i2 : Int))) && true)))
def record_CheckKinds_l1 (p_l : List GKind) (j1 : Option Int) : List GKind → Nat → Option Int
  | [], _ => j1
  | y1 :: ys1, i1 => Option.bind (words_IsKey y1.Key) (fun r1 =>
  Join (fun (c1 : Bool) =>
  if c1 then
  some 5
  else
  Join (fun (c2 : Bool) =>
  if c2 then
  some 7
  else
  if decide (100 < (([] : List ByteArray).length : Int)) then
  some 2
  else
  Join (if (((decide (y1.Young < 0)) || (decide (y1.Old < y1.Young))) || (decide (150 < y1.Old))) then
  some 1
  else
  record_CheckKinds_l1 p_l j1 ys1 (i1 + 1)) (fun j4 =>
  record_CheckKinds_l2 j4 ([] : List ByteArray) 0)) (fun j3 =>
  if (decide (0 < (i1 : Int))) then Chk (inB (W ((i1 : Int) - 1)) p_l.length) (
  j3 ((decide (0 < (i1 : Int))) && (Sless y1.Key ((nth p_l (W ((i1 : Int) - 1))).Key) || decide (y1.Key = ((nth p_l (W ((i1 : Int) - 1))).Key))))) else j3 ((decide (0 < (i1 : Int))) && true))) (fun j2 =>
  if (!r1) then j2 ((!r1) || true) else Option.bind (words_IsKey y1.Race) (fun r2 =>
  j2 ((!r1) || (!r2)))))
def record_CheckKinds (p_l : List GKind) : Option Int :=
  if decide (50 < (p_l.length : Int)) then
  some 2
  else
  Join (some 0) (fun j1 =>
  record_CheckKinds_l1 p_l j1 p_l 0)
def words_IsMoment (p_n : Int) : Bool :=
  ((decide (0 ≤ p_n)) && (decide (p_n < 345686400000)))
def timing_IsTime (p_n : Int) : Bool :=
  (words_Within p_n 1 360000)
def record_checkStep (p_x : GStep) : Option Int :=
  Join (some 0) (fun j1 =>
  if !(words_IsMoment p_x.At) then
  some 1
  else
  if !(words_Within p_x.Kind 1 3) then
  some 4
  else
  Option.bind (words_IsKey p_x.Id) (fun r1 =>
  if !r1 then
  some 5
  else
  Join (j1) (fun j2 =>
  if !decide (p_x.Kind = 1) then
  if !decide (p_x = (GStep.mk p_x.At p_x.Kind p_x.Id k_empty k_empty k_empty 0 0)) then
  some 3
  else
  j2
  else
  Option.bind (words_IsKey p_x.Who) (fun r2 =>
  Join (fun (c1 : Bool) =>
  Join (fun (c2 : Bool) =>
  if c2 then
  some 5
  else
  if ((!(words_Within p_x.Age 0 150)) || (!(timing_IsTime p_x.Time))) then
  some 1
  else
  j2) (fun j4 =>
  if c1 then j4 (c1 || true) else Join (fun (c3 : Bool) =>
  j4 (c1 || c3)) (fun j5 =>
  if (!decide (p_x.Club = k_empty)) then Option.bind (words_IsKey p_x.Club) (fun r4 =>
  j5 ((!decide (p_x.Club = k_empty)) && (!r4))) else j5 ((!decide (p_x.Club = k_empty)) && true)))) (fun j3 =>
  if (!r2) then j3 ((!r2) || true) else Option.bind (words_IsKey p_x.Race) (fun r3 =>
  j3 ((!r2) || (!r3))))))))
def record_checkSwum (p_s : GStep) : Option Int :=
  Option.bind (record_checkStep p_s) (fun r1 =>
  if !decide (r1 = 0) then
  some r1
  else
  if !decide (p_s.Kind = 1) then
  some 4
  else
  some 0)
def slices_Index_string_l1 (p_v : ByteArray) (j1 : Int) : List ByteArray → Nat → Int
  | [], _ => j1
  | y1 :: ys1, i1 => if decide (p_v = y1) then
  (i1 : Int)
  else
  slices_Index_string_l1 p_v j1 ys1 (i1 + 1)
def slices_Index_string (p_s : List ByteArray) (p_v : ByteArray) : Int :=
  Join ((-1)) (fun j1 =>
  slices_Index_string_l1 p_v j1 p_s 0)
def slices_Contains_string (p_s : List ByteArray) (p_v : ByteArray) : Bool :=
  decide (0 ≤ (slices_Index_string p_s p_v))
def record_isFor (p_k : GKind) (p_s : GStep) : Bool :=
  (((decide (p_s.Race = p_k.Race)) && ((decide ((([] : List ByteArray).length : Int) = 0)) || (slices_Contains_string ([] : List ByteArray) p_s.Club))) && (words_Within p_s.Age p_k.Young p_k.Old))
def record_For_l1 (p_s : GStep) (j1 : (List ByteArray) → Option ((List ByteArray) × Int)) : List GKind → Nat → (List ByteArray) → Option ((List ByteArray) × Int)
  | [], _, x1 => j1 x1
  | y1 :: ys1, i1, x1 => Join (fun (x2 : List ByteArray) =>
  record_For_l1 p_s j1 ys1 (i1 + 1) x2) (fun j2 =>
  Join (fun (x3 : List ByteArray) =>
  j2 x3) (fun j3 =>
  if (record_isFor y1 p_s) then
  Chk (room x1.length) (
  j3 (x1 ++ [y1.Key]))
  else
  j3 x1))
def record_For (p_l : List GKind) (p_s : GStep) : Option ((List ByteArray) × Int) :=
  Option.bind (record_CheckKinds p_l) (fun r1 =>
  if !decide (r1 = 0) then
  some (([] : List ByteArray), r1)
  else
  Option.bind (record_checkSwum p_s) (fun r2 =>
  if !decide (r2 = 0) then
  some (([] : List ByteArray), r2)
  else
  Join (fun (x1 : List ByteArray) =>
  some (x1, 0)) (fun j1 =>
  record_For_l1 p_s j1 p_l 0 ([] : List ByteArray))))
def slices_Equal_string_l1 (p_s2 : List ByteArray) (j1 : Option Bool) : List ByteArray → Nat → Option Bool
  | [], _ => j1
  | y1 :: ys1, i1 => Chk (inB (i1 : Int) p_s2.length) (
  if !decide (y1 = (nth p_s2 (i1 : Int))) then
  some false
  else
  slices_Equal_string_l1 p_s2 j1 ys1 (i1 + 1))
def slices_Equal_string (p_s1 : List ByteArray) (p_s2 : List ByteArray) : Option Bool :=
  if !decide ((p_s1.length : Int) = (p_s2.length : Int)) then
  some false
  else
  Join (some true) (fun j1 =>
  slices_Equal_string_l1 p_s2 j1 p_s1 0)
def tumblaw2_recorded : Option Bool :=
  Option.bind (record_For [(GKind.mk k_k k_r () 0 9)] (GStep.mk 0 1 k_i k_a k_empty k_r 0 5)) (fun r1 =>
  Join (fun (c1 : Bool) =>
  some c1) (fun j1 =>
  if (decide (r1.2 = 0)) then Option.bind (slices_Equal_string r1.1 [k_k]) (fun r2 =>
  j1 ((decide (r1.2 = 0)) && r2)) else j1 ((decide (r1.2 = 0)) && true)))
def tumblaw2_RelaysLeadOff_l1 (r1 : GRace × Int) (x1 : Int) (x2 : Int) (p_l : List Int) (j3 : (List Int) → Int → Option Bool) : Nat → (List Int) → Int → Int → Int → Option Bool
  | 0, _, _, _, _ => none
  | m1 + 1, x3, x4, x5, x6 => if decide (x6 < (imax 1 (W (Int.tdiv (W ((W (Int.tdiv r1.1.Metres 25)) * x1)) (W (Int.tdiv (imax x2 25) 25)))))) then
  Option.bind (Stream_Pick p_l x4 [1500, 1600, 2000]) (fun r4 =>
  Option.bind (Stream_Flip p_l r4.2 12) (fun r5 =>
  Join (fun (x7 : Int) =>
  Chk (room x3.length) (
  tumblaw2_RelaysLeadOff_l1 r1 x1 x2 p_l j3 m1 (x3 ++ [x7]) r5.2 (W (x5 + r4.1)) (W (x6 + 1)))) (fun j4 =>
  if r5.1 then
  j4 0
  else
  j4 (W (x5 + r4.1)))))
  else
  j3 x3 x4
def tumblaw2_RelaysLeadOff (p_l : List Int) : Option Bool :=
  Option.bind (Stream_MeetRace p_l 0 k_ra) (fun r1 =>
  Option.bind (Stream_Flip p_l r1.2 2) (fun r2 =>
  Join (fun (x1 : Int) =>
  Option.bind (Stream_Flip p_l r2.2 15) (fun r3 =>
  Join (fun (x2 : Int) =>
  Chk (!decide ((W (Int.tdiv (imax x2 25) 25)) = 0)) (
  Join (fun (x3 : List Int) (x4 : Int) =>
  Option.bind (Stream_Flip p_l x4 12) (fun r6 =>
  Join (fun (x8 : List Int) =>
  Option.bind (record_LeadOff (GRace.mk r1.1.Key r1.1.Metres r1.1.Stroke x2 x1 r1.1.Sex r1.1.Young r1.1.Old) x8) (fun r8 =>
  Option.bind (tumbref1_RaceFault (GRace.mk r1.1.Key r1.1.Metres r1.1.Stroke x2 x1 r1.1.Sex r1.1.Young r1.1.Old)) (fun r9 =>
  Join (fun (x9 : Int) =>
  Join (fun (x10 : Int) (x11 : Bool) =>
  Join (fun (c1 : Bool) =>
  some c1) (fun j8 =>
  if (((decide (r8.2.2 = x9)) && (decide (r8.1 = x10))) && (decide (r8.2.1 = x11))) then Option.bind (tumblaw2_recorded) (fun r12 =>
  j8 ((((decide (r8.2.2 = x9)) && (decide (r8.1 = x10))) && (decide (r8.2.1 = x11))) && r12)) else j8 ((((decide (r8.2.2 = x9)) && (decide (r8.1 = x10))) && (decide (r8.2.1 = x11))) && true))) (fun j7 =>
  if ((decide (x9 = 0)) && (decide (1 < x1))) then
  Option.bind (tumbref1_LengthsOf (GRace.mk r1.1.Key r1.1.Metres r1.1.Stroke x2 x1 r1.1.Sex r1.1.Young r1.1.Old)) (fun r11 =>
  Chk (!decide (x1 = 0)) (
  Chk (inB (W ((W (Int.tdiv r11 x1)) - 1)) x8.length) (
  j7 (nth x8 (W ((W (Int.tdiv r11 x1)) - 1))) (decide (0 < (nth x8 (W ((W (Int.tdiv r11 x1)) - 1))))))))
  else
  j7 0 false)) (fun j6 =>
  if decide (r9 = 0) then
  Option.bind (tumbref1_SplitsFault (GRace.mk r1.1.Key r1.1.Metres r1.1.Stroke x2 x1 r1.1.Sex r1.1.Young r1.1.Old) x8) (fun r10 =>
  j6 r10)
  else
  j6 r9)))) (fun j5 =>
  if r6.1 then
  Option.bind (Stream_Odd p_l r6.2 0 5000) (fun r7 =>
  Chk (room x3.length) (
  j5 (x3 ++ [r7.1])))
  else
  j5 x3))) (fun j3 =>
  tumblaw2_RelaysLeadOff_l1 r1 x1 x2 p_l j3 (((imax 1 (W (Int.tdiv (W ((W (Int.tdiv r1.1.Metres 25)) * x1)) (W (Int.tdiv (imax x2 25) 25))))) - 0).toNat + 2) ([] : List Int) r3.2 0 0))) (fun j2 =>
  if r3.1 then
  j2 33
  else
  j2 r1.1.Course))) (fun j1 =>
  if r2.1 then
  j1 4
  else
  j1 r1.1.Legs)))
/-- The loops' equations are made here, once. -/
theorem twin_eqs : True := by
  have h := @timing_CheckSplits_l1.eq_def; clear h; have h := @timing_CheckSplits_l1.eq_1; clear h; have h := @timing_CheckSplits_l1.eq_2; clear h
  have h := @tumbref1_SplitsFault_l1.eq_def; clear h; have h := @tumbref1_SplitsFault_l1.eq_1; clear h; have h := @tumbref1_SplitsFault_l1.eq_2; clear h
  have h := @record_CheckKinds_l2.eq_def; clear h; have h := @record_CheckKinds_l2.eq_1; clear h; have h := @record_CheckKinds_l2.eq_2; clear h
  have h := @record_CheckKinds_l1.eq_def; clear h; have h := @record_CheckKinds_l1.eq_1; clear h; have h := @record_CheckKinds_l1.eq_2; clear h
  have h := @slices_Index_string_l1.eq_def; clear h; have h := @slices_Index_string_l1.eq_1; clear h; have h := @slices_Index_string_l1.eq_2; clear h
  have h := @record_For_l1.eq_def; clear h; have h := @record_For_l1.eq_1; clear h; have h := @record_For_l1.eq_2; clear h
  have h := @slices_Equal_string_l1.eq_def; clear h; have h := @slices_Equal_string_l1.eq_1; clear h; have h := @slices_Equal_string_l1.eq_2; clear h
  have h := @tumblaw2_RelaysLeadOff_l1.eq_def; clear h; have h := @tumblaw2_RelaysLeadOff_l1.eq_1; clear h; have h := @tumblaw2_RelaysLeadOff_l1.eq_2; clear h
  trivial
end Go.Proofs.YtlfacnkbjmilpaaDoor
