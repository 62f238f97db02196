/- The Go functions as plain Lean functions, by program. -/
import Derived.Test.YtdcmeoefpigcdaaGreatDoorBase
namespace Go.Proofs.YtdcmeoefpigcdaaGreatDoor
open Go
structure GRace where
  Key : ByteArray
  Metres : Int
  Stroke : Int
  Course : Int
  Legs : Int
  Sex : Int
  Young : Int
  Old : Int
  deriving DecidableEq, Inhabited
structure GSwimmer where
  Key : ByteArray
  Sex : Int
  Born : Int
  deriving DecidableEq, Inhabited
structure GMove where
  Who : ByteArray
  Club : ByteArray
  Day : Int
  deriving DecidableEq, Inhabited
structure GBounds where
  Races : Int
  Club : Int
  Age : Int
  Day : Int
  deriving DecidableEq, Inhabited
structure GEntry where
  Who : ByteArray
  Race : ByteArray
  deriving DecidableEq, Inhabited
structure GDate where
  Year : Int
  Month : Int
  Day : Int
  deriving DecidableEq, Inhabited
structure GItem where
  Key : ByteArray
  Heats : Int
  Long : Int
  Gap : Int
  Break : Int
  deriving DecidableEq, Inhabited
structure GWindow where
  From : Int
  To : Int
  deriving DecidableEq, Inhabited
structure GSlot where
  Item : ByteArray
  Heat : Int
  Time : GWindow
  deriving DecidableEq, Inhabited
structure GBase where
  Race : ByteArray
  Time : Int
  deriving DecidableEq, Inhabited
structure GKind where
  Key : ByteArray
  Race : ByteArray
  Clubs : Unit
  Young : Int
  Old : Int
  deriving DecidableEq, Inhabited
structure GStep where
  At : Int
  Kind : Int
  Id : ByteArray
  Who : ByteArray
  Club : ByteArray
  Race : ByteArray
  Age : Int
  Time : Int
  deriving DecidableEq, Inhabited
structure Gswimmer_place where
  club_ : ByteArray
  race_ : ByteArray
  deriving DecidableEq, Inhabited
def k_empty : ByteArray := ⟨#[]⟩
def k_ra : ByteArray := ⟨#[114, 97]⟩
def k_rb : ByteArray := ⟨#[114, 98]⟩
def k_rc : ByteArray := ⟨#[114, 99]⟩
def k_ann : ByteArray := ⟨#[97, 110, 110]⟩
def k_bea : ByteArray := ⟨#[98, 101, 97]⟩
def k_cid : ByteArray := ⟨#[99, 105, 100]⟩
def k_dan : ByteArray := ⟨#[100, 97, 110]⟩
def k_eve : ByteArray := ⟨#[101, 118, 101]⟩
def k_fox : ByteArray := ⟨#[102, 111, 120]⟩
def k_blue : ByteArray := ⟨#[98, 108, 117, 101]⟩
def k_zed : ByteArray := ⟨#[122, 101, 100]⟩
def k_rz : ByteArray := ⟨#[114, 122]⟩
def k_A : ByteArray := ⟨#[65]⟩
def k_abcdefghijklmnopqrstuvwxyz : ByteArray := ⟨#[97, 98, 99, 100, 101, 102, 103, 104, 105, 106, 107, 108, 109, 110, 111, 112, 113, 114, 115, 116, 117, 118, 119, 120, 121, 122]⟩
def k_abcdefghijkl_h0e2e2c : ByteArray := ⟨#[97, 98, 99, 100, 101, 102, 103, 104, 105, 106, 107, 108, 109, 110, 111, 112, 113, 114, 115, 116, 117, 118, 119, 120, 121, 122, 48, 49, 50, 51, 52, 53, 54, 55, 56, 57, 45, 95]⟩
def k_a : ByteArray := ⟨#[97]⟩
def k_r : ByteArray := ⟨#[114]⟩
def k__00_01_02_02_h633d86 : ByteArray := ⟨#[0, 1, 2, 2, 3, 3, 3, 3, 4, 4, 4, 4, 4, 4, 4, 4, 5, 5, 5, 5, 5, 5, 5, 5, 5, 5, 5, 5, 5, 5, 5, 5, 6, 6, 6, 6, 6, 6, 6, 6, 6, 6, 6, 6, 6, 6, 6, 6, 6, 6, 6, 6, 6, 6, 6, 6, 6, 6, 6, 6, 6, 6, 6, 6, 7, 7, 7, 7, 7, 7, 7, 7, 7, 7, 7, 7, 7, 7, 7, 7, 7, 7, 7, 7, 7, 7, 7, 7, 7, 7, 7, 7, 7, 7, 7, 7, 7, 7, 7, 7, 7, 7, 7, 7, 7, 7, 7, 7, 7, 7, 7, 7, 7, 7, 7, 7, 7, 7, 7, 7, 7, 7, 7, 7, 7, 7, 7, 7, 8, 8, 8, 8, 8, 8, 8, 8, 8, 8, 8, 8, 8, 8, 8, 8, 8, 8, 8, 8, 8, 8, 8, 8, 8, 8, 8, 8, 8, 8, 8, 8, 8, 8, 8, 8, 8, 8, 8, 8, 8, 8, 8, 8, 8, 8, 8, 8, 8, 8, 8, 8, 8, 8, 8, 8, 8, 8, 8, 8, 8, 8, 8, 8, 8, 8, 8, 8, 8, 8, 8, 8, 8, 8, 8, 8, 8, 8, 8, 8, 8, 8, 8, 8, 8, 8, 8, 8, 8, 8, 8, 8, 8, 8, 8, 8, 8, 8, 8, 8, 8, 8, 8, 8, 8, 8, 8, 8, 8, 8, 8, 8, 8, 8, 8, 8, 8, 8, 8, 8, 8, 8, 8, 8, 8, 8, 8, 8]⟩
def k_k : ByteArray := ⟨#[107]⟩
def k_i : ByteArray := ⟨#[105]⟩
def tumbmake_Below (p_x : Int) (p_n : Int) : Option Int :=
  if decide (p_n < 1) then
  some 0
  else
  Chk (!decide (p_n = 0)) (
  Join (fun (x1 : Int) =>
  some x1) (fun j1 =>
  if decide ((Int.tmod p_x p_n) < 0) then
  j1 (W ((Int.tmod p_x p_n) + p_n))
  else
  j1 (Int.tmod p_x p_n)))
def Stream_Next (p_s_L : List Int) (p_s_at : Int) (p_n : Int) : Option (Int × Int) :=
  if decide ((p_s_L.length : Int) = 0) then
  Option.bind (tumbmake_Below (W ((W (p_s_at + 1)) * 7919)) p_n) (fun r1 =>
  some (r1, W (p_s_at + 1)))
  else
  Chk (!decide ((p_s_L.length : Int) = 0)) (
  Chk (!decide ((p_s_L.length : Int) = 0)) (
  Chk (inB (Int.tmod (W ((W (p_s_at + 1)) - 1)) (p_s_L.length : Int)) p_s_L.length) (
  Option.bind (tumbmake_Below (nth p_s_L (Int.tmod (W ((W (p_s_at + 1)) - 1)) (p_s_L.length : Int))) 1073741824) (fun r2 =>
  Option.bind (tumbmake_Below (W (r2 + (W ((W (Int.tdiv (W ((W (p_s_at + 1)) - 1)) (p_s_L.length : Int))) * (W (7919 + (Int.tmod (W ((W (p_s_at + 1)) - 1)) (p_s_L.length : Int)))))))) p_n) (fun r3 =>
  some (r3, W (p_s_at + 1)))))))
def Stream_Flip (p_s_L : List Int) (p_s_at : Int) (p_n : Int) : Option (Bool × Int) :=
  Option.bind (Stream_Next p_s_L p_s_at p_n) (fun r1 =>
  some (decide (r1.1 = 0), r1.2))
def Stream_Pick (p_s_L : List Int) (p_s_at : Int) (p_l : List Int) : Option (Int × Int) :=
  Option.bind (Stream_Next p_s_L p_s_at (p_l.length : Int)) (fun r1 =>
  Chk (inB r1.1 p_l.length) (
  some ((nth p_l r1.1), r1.2)))
def Stream_MeetRace (p_s_L : List Int) (p_s_at : Int) (p_key : ByteArray) : Option (GRace × Int) :=
  Option.bind (Stream_Pick p_s_L p_s_at [50, 100, 200]) (fun r1 =>
  Option.bind (Stream_Pick p_s_L r1.2 [1, 2, 3, 4]) (fun r2 =>
  Option.bind (Stream_Pick p_s_L r2.2 [25, 50]) (fun r3 =>
  Option.bind (Stream_Pick p_s_L r3.2 [1, 1, 1, 4]) (fun r4 =>
  Option.bind (Stream_Pick p_s_L r4.2 [0, 1, 2]) (fun r5 =>
  Option.bind (Stream_Pick p_s_L r5.2 [0, 0, 5, 10]) (fun r6 =>
  Option.bind (Stream_Pick p_s_L r6.2 [0, 5, 90]) (fun r7 =>
  some ((GRace.mk p_key r1.1 r2.1 r3.1 r4.1 r5.1 r6.1 (W (r6.1 + r7.1))), r7.2))))))))
def Stream_MeetRaces_l1 (p_s_L : List Int) (j1 : (List GRace) → Int → Option ((List GRace) × Int)) : List ByteArray → Nat → (List GRace) → Int → Option ((List GRace) × Int)
  | [], _, x1, x2 => j1 x1 x2
  | y1 :: ys1, i1, x1, x2 => Join (fun (x3 : List GRace) (x4 : Int) =>
  Stream_MeetRaces_l1 p_s_L j1 ys1 (i1 + 1) x3 x4) (fun j2 =>
  Option.bind (Stream_Flip p_s_L x2 6) (fun r1 =>
  Join (fun (x5 : List GRace) (x6 : Int) =>
  j2 x5 x6) (fun j3 =>
  if !r1.1 then
  Option.bind (Stream_MeetRace p_s_L r1.2 y1) (fun r2 =>
  Chk (room x1.length) (
  j3 (x1 ++ [r2.1]) r2.2))
  else
  j3 x1 r1.2)))
def Stream_MeetRaces (p_s_L : List Int) (p_s_at : Int) : Option ((List GRace) × Int) :=
  Join (fun (x1 : List GRace) (x2 : Int) =>
  some (x1, x2)) (fun j1 =>
  Stream_MeetRaces_l1 p_s_L j1 ([k_ra, k_rb, k_rc] : List ByteArray) 0 ([] : List GRace) p_s_at)
def Stream_RightSwimmers_l1 (p_s_L : List Int) (j1 : (List GSwimmer) → Int → Option ((List GSwimmer) × Int)) : List ByteArray → Nat → (List GSwimmer) → Int → Option ((List GSwimmer) × Int)
  | [], _, x1, x2 => j1 x1 x2
  | y1 :: ys1, i1, x1, x2 => Join (fun (x3 : List GSwimmer) (x4 : Int) =>
  Stream_RightSwimmers_l1 p_s_L j1 ys1 (i1 + 1) x3 x4) (fun j2 =>
  Option.bind (Stream_Flip p_s_L x2 8) (fun r1 =>
  if r1.1 then
  j2 x1 r1.2
  else
  Option.bind (Stream_Pick p_s_L r1.2 [1, 2]) (fun r2 =>
  Option.bind (Stream_Pick p_s_L r2.2 [59, 0, (-1), (-307), (-3653), (-5000), 365, 1520]) (fun r3 =>
  Chk (room x1.length) (
  j2 (x1 ++ [(GSwimmer.mk y1 r2.1 r3.1)]) r3.2)))))
def Stream_RightSwimmers (p_s_L : List Int) (p_s_at : Int) : Option ((List GSwimmer) × Int) :=
  Join (fun (x1 : List GSwimmer) (x2 : Int) =>
  some (x1, x2)) (fun j1 =>
  Stream_RightSwimmers_l1 p_s_L j1 ([k_ann, k_bea, k_cid, k_dan, k_eve, k_fox] : List ByteArray) 0 ([] : List GSwimmer) p_s_at)
def Stream_OneClub_l1 (j1 : (List GMove) → Option (List GMove)) : List ByteArray → Nat → (List GMove) → Option (List GMove)
  | [], _, x1 => j1 x1
  | y1 :: ys1, i1, x1 => Chk (room x1.length) (
  Stream_OneClub_l1 j1 ys1 (i1 + 1) (x1 ++ [(GMove.mk y1 k_blue 0)]))
def Stream_OneClub (p_s_L : List Int) (p_s_at : Int) : Option (List GMove) :=
  Join (fun (x1 : List GMove) =>
  some x1) (fun j1 =>
  Stream_OneClub_l1 j1 ([k_ann, k_bea, k_cid, k_dan, k_eve, k_fox] : List ByteArray) 0 ([] : List GMove))
def Stream_Range (p_s_L : List Int) (p_s_at : Int) (p_low : Int) (p_high : Int) : Option (Int × Int) :=
  if decide (p_high < p_low) then
  some (p_low, p_s_at)
  else
  Option.bind (Stream_Next p_s_L p_s_at (W ((W (p_high - p_low)) + 1))) (fun r1 =>
  some (W (p_low + r1.1), r1.2))
def Stream_Odd (p_s_L : List Int) (p_s_at : Int) (p_low : Int) (p_high : Int) : Option (Int × Int) :=
  Option.bind (Stream_Flip p_s_L p_s_at 12) (fun r1 =>
  if r1.1 then
  Option.bind (Stream_Pick p_s_L r1.2 [W (p_low - 1), W (p_high + 1), p_low, p_high, (-1099511627776), 1099511627776]) (fun r2 =>
  some (r2.1, r2.2))
  else
  Option.bind (Stream_Range p_s_L r1.2 p_low p_high) (fun r3 =>
  some (r3.1, r3.2)))
def Stream_Bounds (p_s_L : List Int) (p_s_at : Int) : Option (GBounds × Int) :=
  Option.bind (Stream_Pick p_s_L p_s_at [0, 1, 2, 5]) (fun r1 =>
  Option.bind (Stream_Pick p_s_L r1.2 [0, 1, 2, 9]) (fun r2 =>
  Option.bind (Stream_Pick p_s_L r2.2 [1, 2]) (fun r3 =>
  Option.bind (Stream_Pick p_s_L r3.2 [60, 425, 1000, 1600, 4000]) (fun r4 =>
  Option.bind (Stream_Flip p_s_L r4.2 15) (fun r5 =>
  Join (fun (x1 : Int) (x2 : Int) (x3 : Int) (x4 : Int) (x5 : Int) =>
  some ((GBounds.mk x1 x2 x3 x4), x5)) (fun j1 =>
  if r5.1 then
  Option.bind (Stream_Odd p_s_L r5.2 0 100) (fun r6 =>
  Option.bind (Stream_Odd p_s_L r6.2 0 1500) (fun r7 =>
  Option.bind (Stream_Odd p_s_L r7.2 1 2) (fun r8 =>
  Option.bind (Stream_Odd p_s_L r8.2 (-40000) 4000) (fun r9 =>
  j1 r6.1 r7.1 r8.1 r9.1 r9.2))))
  else
  j1 r1.1 r2.1 r3.1 r4.1 r5.2))))))
def Stream_Some (p_s_L : List Int) (p_s_at : Int) (p_l : List ByteArray) : Option (ByteArray × Int) :=
  Option.bind (Stream_Next p_s_L p_s_at (p_l.length : Int)) (fun r1 =>
  Chk (inB r1.1 p_l.length) (
  some ((nth p_l r1.1), r1.2)))
def slices_Index_Entry_l1 (p_v : GEntry) (j1 : Int) : List GEntry → Nat → Int
  | [], _ => j1
  | y1 :: ys1, i1 => if decide (p_v = y1) then
  (i1 : Int)
  else
  slices_Index_Entry_l1 p_v j1 ys1 (i1 + 1)
def slices_Index_Entry (p_s : List GEntry) (p_v : GEntry) : Int :=
  Join ((-1)) (fun j1 =>
  slices_Index_Entry_l1 p_v j1 p_s 0)
def slices_Contains_Entry (p_s : List GEntry) (p_v : GEntry) : Bool :=
  decide (0 ≤ (slices_Index_Entry p_s p_v))
def Stream_Entries_l1 (p_many : Int) (p_s_L : List Int) (j1 : (List GEntry) → Int → Option ((List GEntry) × Int)) : Nat → (List GEntry) → Int → Int → Option ((List GEntry) × Int)
  | 0, _, _, _ => none
  | m1 + 1, x1, x2, x3 => if decide (x3 < p_many) then
  Join (fun (x4 : List GEntry) (x5 : Int) =>
  Stream_Entries_l1 p_many p_s_L j1 m1 x4 x5 (W (x3 + 1))) (fun j2 =>
  Option.bind (Stream_Some p_s_L x2 [k_ann, k_bea, k_cid, k_dan, k_eve, k_zed]) (fun r1 =>
  Option.bind (Stream_Some p_s_L r1.2 [k_ra, k_ra, k_rb, k_rc, k_rz]) (fun r2 =>
  Join (fun (x6 : Int) (x7 : Bool) =>
  Join (fun (x8 : List GEntry) =>
  Option.bind (Stream_Flip p_s_L x6 150) (fun r4 =>
  Join (fun (x9 : List GEntry) (x10 : Int) =>
  j2 x9 x10) (fun j5 =>
  if r4.1 then
  Option.bind (Stream_Some p_s_L r4.2 [k_empty, k_ann]) (fun r5 =>
  Option.bind (Stream_Some p_s_L r5.2 [k_A, k_ra]) (fun r6 =>
  Chk (room x8.length) (
  j5 (x8 ++ [(GEntry.mk r5.1 r6.1)]) r6.2)))
  else
  j5 x8 r4.2))) (fun j4 =>
  if x7 then
  Chk (room x1.length) (
  j4 (x1 ++ [(GEntry.mk r1.1 r2.1)]))
  else
  j4 x1)) (fun j3 =>
  if (!(slices_Contains_Entry x1 (GEntry.mk r1.1 r2.1))) then
  j3 r2.2 true
  else
  Option.bind (Stream_Flip p_s_L r2.2 60) (fun r3 =>
  j3 r3.2 r3.1)))))
  else
  j1 x1 x2
def Stream_Entries (p_s_L : List Int) (p_s_at : Int) (p_many : Int) : Option ((List GEntry) × Int) :=
  Join (fun (x1 : List GEntry) (x2 : Int) =>
  some (x1, x2)) (fun j1 =>
  Stream_Entries_l1 p_many p_s_L j1 ((p_many - 0).toNat + 2) ([] : List GEntry) p_s_at 0)
def tumbref2_in (p_n : Int) (p_low : Int) (p_high : Int) : Bool :=
  ((decide (p_low ≤ p_n)) && (decide (p_n ≤ p_high)))
def tumbref2_Day (p_n : Int) : Bool :=
  (tumbref2_in p_n (-40000) 4000)
def tumbref2_BoundsFault (p_b : GBounds) : Int :=
  if ((!(tumbref2_in p_b.Races 0 100)) || (!(tumbref2_in p_b.Club 0 1500))) then
  1
  else
  if !(tumbref2_in p_b.Age 1 2) then
  4
  else
  if !(tumbref2_Day p_b.Day) then
  1
  else
  0
def strings_IndexByte (s : ByteArray) (c : Int) : Int := Lib.indexByte s.data.toList c.toNat.toUInt8
def tumbref2_only_l1 (p_s : ByteArray) (p_some : ByteArray) (j1 : Option Bool) : Nat → Int → Option Bool
  | 0, _ => none
  | m1 + 1, x1 => if decide (x1 < (p_s.size : Int)) then
  Chk (inB x1 p_s.size) (
  if decide ((strings_IndexByte p_some (sbyte p_s x1)) < 0) then
  some false
  else
  tumbref2_only_l1 p_s p_some j1 m1 (W (x1 + 1)))
  else
  j1
def tumbref2_only (p_s : ByteArray) (p_some : ByteArray) : Option Bool :=
  Join (some true) (fun j1 =>
  tumbref2_only_l1 p_s p_some j1 (((p_s.size : Int) - 0).toNat + 2) 0)
def tumbref2_Key (p_s : ByteArray) : Option Bool :=
  Join (fun (c1 : Bool) =>
  Join (fun (c2 : Bool) =>
  some c2) (fun j2 =>
  if c1 then Option.bind (tumbref2_only p_s k_abcdefghijkl_h0e2e2c) (fun r2 =>
  j2 (c1 && r2)) else j2 (c1 && true))) (fun j1 =>
  if (tumbref2_in (p_s.size : Int) 1 40) then Chk (cutB 0 1 p_s.size) (
  Option.bind (tumbref2_only (scut p_s 0 1) k_abcdefghijklmnopqrstuvwxyz) (fun r1 =>
  j1 ((tumbref2_in (p_s.size : Int) 1 40) && r1))) else j1 ((tumbref2_in (p_s.size : Int) 1 40) && true))
def tumbref2_EntriesFault_l1 (j1 : Option Int) : List GEntry → Nat → Option Int
  | [], _ => j1
  | y1 :: ys1, i1 => Option.bind (tumbref2_Key y1.Who) (fun r1 =>
  Join (fun (c1 : Bool) =>
  if c1 then
  some 5
  else
  tumbref2_EntriesFault_l1 j1 ys1 (i1 + 1)) (fun j2 =>
  if (!r1) then j2 ((!r1) || true) else Option.bind (tumbref2_Key y1.Race) (fun r2 =>
  j2 ((!r1) || (!r2)))))
def tumbref2_EntriesFault_l2 (p_l : List GEntry) (j3 : Option Int) : List GEntry → Nat → Option Int
  | [], _ => j3
  | y2 :: ys2, i2 => Chk (cutB 0 (i2 : Int) p_l.length) (
  if (slices_Contains_Entry (cut p_l 0 (i2 : Int)) y2) then
  some 6
  else
  tumbref2_EntriesFault_l2 p_l j3 ys2 (i2 + 1))
def tumbref2_EntriesFault (p_l : List GEntry) : Option Int :=
  if decide (1500 < (p_l.length : Int)) then
  some 2
  else
  Join (Join (some 0) (fun j3 =>
  tumbref2_EntriesFault_l2 p_l j3 p_l 0)) (fun j1 =>
  tumbref2_EntriesFault_l1 j1 p_l 0)
def words_Within (p_n : Int) (p_low : Int) (p_high : Int) : Bool :=
  ((decide (p_low ≤ p_n)) && (decide (p_n ≤ p_high)))
def swimmer_leap (p_year : Int) : Bool :=
  ((decide ((Int.tmod p_year 4) = 0)) && ((!decide ((Int.tmod p_year 100) = 0)) || (decide ((Int.tmod p_year 400) = 0))))
def swimmer_long (p_year : Int) (p_month : Int) : Int :=
  if decide (p_month = 2) then
  if (swimmer_leap p_year) then
  29
  else
  28
  else
  Join (fun (x1 : Bool) =>
  if x1 then
  30
  else
  31) (fun j1 =>
  if decide (p_month = 4) then
  j1 (decide (p_month = 4))
  else
  Join (fun (x2 : Bool) =>
  j1 x2) (fun j2 =>
  if decide (p_month = 6) then
  j2 (decide (p_month = 6))
  else
  Join (fun (x3 : Bool) =>
  j2 x3) (fun j3 =>
  if decide (p_month = 9) then
  j3 (decide (p_month = 9))
  else
  j3 (decide (p_month = 11)))))
def swimmer_yearLong (p_year : Int) : Int :=
  if (swimmer_leap p_year) then
  366
  else
  365
def swimmer_isDay (p_n : Int) : Bool :=
  (words_Within p_n (-40000) 4000)
def swimmer_DayOf_l1 (p_d : GDate) (j2 : Int → Option (Int × Int)) : Nat → Int → Int → Option (Int × Int)
  | 0, _, _ => none
  | m1 + 1, x2, x3 => if decide (x3 < p_d.Month) then
  swimmer_DayOf_l1 p_d j2 m1 (W (x2 + (swimmer_long p_d.Year x3))) (W (x3 + 1))
  else
  j2 x2
def swimmer_DayOf_l2 (p_d : GDate) (j3 : Int → Option (Int × Int)) : Nat → Int → Int → Option (Int × Int)
  | 0, _, _ => none
  | m2 + 1, x4, x5 => if decide (x5 < p_d.Year) then
  swimmer_DayOf_l2 p_d j3 m2 (W (x4 + (swimmer_yearLong x5))) (W (x5 + 1))
  else
  j3 x4
def swimmer_DayOf_l3 (j4 : Int → Option (Int × Int)) : Nat → Int → Int → Option (Int × Int)
  | 0, _, _ => none
  | m3 + 1, x6, x7 => if decide (x7 < 2024) then
  swimmer_DayOf_l3 j4 m3 (W (x6 - (swimmer_yearLong x7))) (W (x7 + 1))
  else
  j4 x6
def swimmer_DayOf (p_d : GDate) : Option (Int × Int) :=
  Join (fun (x1 : Bool) =>
  if x1 then
  some (0, 1)
  else
  Join (fun (x2 : Int) =>
  Join (fun (x4 : Int) =>
  Join (fun (x6 : Int) =>
  if !(swimmer_isDay x6) then
  some (0, 1)
  else
  some (x6, 0)) (fun j4 =>
  swimmer_DayOf_l3 j4 ((2024 - p_d.Year).toNat + 2) x4 p_d.Year)) (fun j3 =>
  swimmer_DayOf_l2 p_d j3 ((p_d.Year - 2024).toNat + 2) x2 2024)) (fun j2 =>
  swimmer_DayOf_l1 p_d j2 ((p_d.Month - 1).toNat + 2) (W (p_d.Day - 1)) 1)) (fun j1 =>
  if !(words_Within p_d.Year 1900 2100) then
  if true then
  j1 true
  else
  j1 (!(words_Within p_d.Day 1 (swimmer_long p_d.Year p_d.Month)))
  else
  if !(words_Within p_d.Month 1 12) then
  j1 true
  else
  j1 (!(words_Within p_d.Day 1 (swimmer_long p_d.Year p_d.Month))))
def strings_Trim (s c : ByteArray) : Option ByteArray :=
  Chk (decide (s.size ≤ 9223372036854775807)) (Chk (decide (c.size < 4294967281)) (Chk (c.data.toList.all fun b => decide (b.toNat < 128)) (some ⟨(Lib.trimS s.data.toList c.data.toList).toArray⟩)))
def words_IsKey (p_s : ByteArray) : Option Bool :=
  Join (fun (c1 : Bool) =>
  Join (fun (c2 : Bool) =>
  Join (fun (c3 : Bool) =>
  some c3) (fun j3 =>
  if c2 then Option.bind (strings_Trim p_s k_abcdefghijkl_h0e2e2c) (fun r1 =>
  j3 (c2 && (decide (r1 = k_empty)))) else j3 (c2 && true))) (fun j2 =>
  if c1 then Chk (inB 0 p_s.size) (
  j2 (c1 && (decide ((sbyte p_s 0) ≤ 122)))) else j2 (c1 && true))) (fun j1 =>
  if ((decide (1 ≤ (p_s.size : Int))) && (decide ((p_s.size : Int) ≤ 40))) then Chk (inB 0 p_s.size) (
  j1 (((decide (1 ≤ (p_s.size : Int))) && (decide ((p_s.size : Int) ≤ 40))) && (decide (97 ≤ (sbyte p_s 0))))) else j1 (((decide (1 ≤ (p_s.size : Int))) && (decide ((p_s.size : Int) ≤ 40))) && true))
def session_CheckItems_l1 (j1 : (List (ByteArray × Bool)) → Option Int) : List GItem → Nat → (List (ByteArray × Bool)) → Option Int
  | [], _, x1 => j1 x1
  | y1 :: ys1, i1, x1 => Option.bind (words_IsKey y1.Key) (fun r1 =>
  if !r1 then
  some 5
  else
  if mgetD x1 y1.Key false then
  some 6
  else
  if ((((!(words_Within y1.Heats 1 60)) || (!(words_Within y1.Long 1 3600000))) || (!(words_Within y1.Gap 0 3600000))) || (!(words_Within y1.Break 0 3600000))) then
  some 1
  else
  session_CheckItems_l1 j1 ys1 (i1 + 1) (mput x1 y1.Key true))
def session_CheckItems (p_l : List GItem) : Option Int :=
  if decide (100 < (p_l.length : Int)) then
  some 2
  else
  Join (fun (x1 : List (ByteArray × Bool)) =>
  some 0) (fun j1 =>
  session_CheckItems_l1 j1 p_l 0 ([] : List (ByteArray × Bool)))
def words_IsMoment (p_n : Int) : Bool :=
  ((decide (0 ≤ p_n)) && (decide (p_n < 345686400000)))
def session_timetable_l2 (y1 : GItem) (j2 : (List GSlot) → Int → Option (List GSlot)) : Nat → (List GSlot) → Int → Int → Option (List GSlot)
  | 0, _, _, _ => none
  | m1 + 1, x3, x4, x5 => if decide (x5 ≤ y1.Heats) then
  Join (fun (x6 : List GSlot) (x7 : Int) =>
  session_timetable_l2 y1 j2 m1 x6 x7 (W (x5 + 1))) (fun j3 =>
  Chk (room x3.length) (
  Join (fun (x8 : Int) =>
  j3 (x3 ++ [(GSlot.mk y1.Key x5 (GWindow.mk x4 (W (x4 + y1.Long))))]) x8) (fun j4 =>
  if decide (x5 < y1.Heats) then
  j4 (W ((W (x4 + y1.Long)) + y1.Gap))
  else
  j4 (W (x4 + y1.Long)))))
  else
  j2 x3 x4
def session_timetable_l1 (j1 : (List GSlot) → Option (List GSlot)) : List GItem → Nat → (List GSlot) → Int → Option (List GSlot)
  | [], _, x1, _ => j1 x1
  | y1 :: ys1, i1, x1, x2 => Join (fun (x3 : List GSlot) (x4 : Int) =>
  session_timetable_l1 j1 ys1 (i1 + 1) x3 (W (x4 + y1.Break))) (fun j2 =>
  session_timetable_l2 y1 j2 ((y1.Heats - 1).toNat + 2) x1 x2 1)
def session_timetable (p_l : List GItem) (p_from : Int) : Option (List GSlot) :=
  Join (fun (x1 : List GSlot) =>
  some x1) (fun j1 =>
  session_timetable_l1 j1 p_l 0 ([] : List GSlot) p_from)
def session_end (p_l : List GSlot) (p_from : Int) : Option Int :=
  if decide ((p_l.length : Int) = 0) then
  some p_from
  else
  Chk (inB (W ((p_l.length : Int) - 1)) p_l.length) (
  some (((nth p_l (W ((p_l.length : Int) - 1))).Time).To))
def session_begin (p_l : List GItem) (p_from : Int) : Option ((List GSlot) × Int) :=
  if !(words_IsMoment p_from) then
  some (([] : List GSlot), 1)
  else
  Option.bind (session_timetable p_l p_from) (fun r1 =>
  Option.bind (session_end r1 p_from) (fun r2 =>
  if decide (345686400000 < r2) then
  some (([] : List GSlot), 1)
  else
  some (r1, 0)))
def session_Timetable (p_l : List GItem) (p_from : Int) : Option ((List GSlot) × Int) :=
  Option.bind (session_CheckItems p_l) (fun r1 =>
  if !decide (r1 = 0) then
  some (([] : List GSlot), r1)
  else
  Option.bind (session_begin p_l p_from) (fun r2 =>
  some (r2.1, r2.2)))
def session_Ends (p_l : List GItem) (p_from : Int) : Option (Int × Int) :=
  Option.bind (session_Timetable p_l p_from) (fun r1 =>
  if !decide (r1.2 = 0) then
  some (0, r1.2)
  else
  Option.bind (session_end r1.1 p_from) (fun r2 =>
  some (r2, 0)))
def timing_IsTime (p_n : Int) : Bool :=
  (words_Within p_n 1 360000)
def points_CheckBase_l1 (p_l : List GBase) (j1 : Option Int) : List GBase → Nat → Option Int
  | [], _ => j1
  | y1 :: ys1, i1 => Option.bind (words_IsKey y1.Race) (fun r1 =>
  if !r1 then
  some 5
  else
  Join (fun (c1 : Bool) =>
  if c1 then
  some 7
  else
  if !(timing_IsTime y1.Time) then
  some 1
  else
  points_CheckBase_l1 p_l j1 ys1 (i1 + 1)) (fun j2 =>
  if (decide (0 < (i1 : Int))) then Chk (inB (W ((i1 : Int) - 1)) p_l.length) (
  j2 ((decide (0 < (i1 : Int))) && (Sless y1.Race ((nth p_l (W ((i1 : Int) - 1))).Race) || decide (y1.Race = ((nth p_l (W ((i1 : Int) - 1))).Race))))) else j2 ((decide (0 < (i1 : Int))) && true)))
def points_CheckBase (p_l : List GBase) : Option Int :=
  if decide (500 < (p_l.length : Int)) then
  some 2
  else
  Join (some 0) (fun j1 =>
  points_CheckBase_l1 p_l j1 p_l 0)
def points_baseOf_l1 (p_race : ByteArray) (j1 : Int) : List GBase → Nat → Int
  | [], _ => j1
  | y1 :: ys1, i1 => if decide (y1.Race = p_race) then
  y1.Time
  else
  points_baseOf_l1 p_race j1 ys1 (i1 + 1)
def points_baseOf (p_l : List GBase) (p_race : ByteArray) : Int :=
  Join (0) (fun j1 =>
  points_baseOf_l1 p_race j1 p_l 0)
def bits_Mul64 (p_x : Int) (p_y : Int) : (Int × Int) :=
  (IntKind.wrap .u64 ((IntKind.wrap .u64 ((IntKind.wrap .u64 ((bitShr .u64 p_x 32) * (bitShr .u64 p_y 32))) + (bitShr .u64 (IntKind.wrap .u64 ((IntKind.wrap .u64 ((bitShr .u64 p_x 32) * (bitAnd .u64 p_y 4294967295))) + (bitShr .u64 (IntKind.wrap .u64 ((bitAnd .u64 p_x 4294967295) * (bitAnd .u64 p_y 4294967295))) 32))) 32))) + (bitShr .u64 (IntKind.wrap .u64 ((bitAnd .u64 (IntKind.wrap .u64 ((IntKind.wrap .u64 ((bitShr .u64 p_x 32) * (bitAnd .u64 p_y 4294967295))) + (bitShr .u64 (IntKind.wrap .u64 ((bitAnd .u64 p_x 4294967295) * (bitAnd .u64 p_y 4294967295))) 32))) 4294967295) + (IntKind.wrap .u64 ((bitAnd .u64 p_x 4294967295) * (bitShr .u64 p_y 32))))) 32)), IntKind.wrap .u64 (p_x * p_y))
def bits_Len64 (p_x : Int) : Option Int :=
  Join (fun (x1 : Int) (x2 : Int) =>
  Join (fun (x3 : Int) (x4 : Int) =>
  Join (fun (x5 : Int) (x6 : Int) =>
  Chk (inB (IntKind.wrap .u8 x5) k__00_01_02_02_h633d86.size) (
  some (W (x6 + (W (sbyte k__00_01_02_02_h633d86 (IntKind.wrap .u8 x5))))))) (fun j3 =>
  if decide (256 ≤ x3) then
  j3 (bitShr .u64 x3 8) (W (x4 + 8))
  else
  j3 x3 x4)) (fun j2 =>
  if decide (65536 ≤ x1) then
  j2 (bitShr .u64 x1 16) (W (x2 + 16))
  else
  j2 x1 x2)) (fun j1 =>
  if decide (4294967296 ≤ p_x) then
  j1 (bitShr .u64 p_x 32) 32
  else
  j1 p_x 0)
def bits_LeadingZeros64 (p_x : Int) : Option Int :=
  Option.bind (bits_Len64 p_x) (fun r1 =>
  some (W (64 - r1)))
def bits_Div64_l1 (p_lo : Int) (r1 : Int) (p_y : Int) (j1 : Int → Option (Int × Int)) : Nat → Int → Int → Option (Int × Int)
  | 0, _, _ => none
  | m1 + 1, x1, x2 => if ((decide (4294967296 ≤ x1)) || (decide ((IntKind.wrap .u64 ((IntKind.wrap .u64 (4294967296 * x2)) + (bitShr .u64 (bitShl .u64 p_lo (IntKind.wrap .u64 r1)) 32))) < (IntKind.wrap .u64 (x1 * (bitAnd .u64 (bitShl .u64 p_y (IntKind.wrap .u64 r1)) 4294967295)))))) then
  if decide (4294967296 ≤ (IntKind.wrap .u64 (x2 + (bitShr .u64 (bitShl .u64 p_y (IntKind.wrap .u64 r1)) 32)))) then
  j1 (IntKind.wrap .u64 (x1 - 1))
  else
  bits_Div64_l1 p_lo r1 p_y j1 m1 (IntKind.wrap .u64 (x1 - 1)) (IntKind.wrap .u64 (x2 + (bitShr .u64 (bitShl .u64 p_y (IntKind.wrap .u64 r1)) 32)))
  else
  j1 x1
def bits_Div64_l2 (p_lo : Int) (r1 : Int) (p_y : Int) (j2 : Int → Option (Int × Int)) : Nat → Int → Int → Option (Int × Int)
  | 0, _, _ => none
  | m2 + 1, x3, x4 => if ((decide (4294967296 ≤ x4)) || (decide ((IntKind.wrap .u64 ((IntKind.wrap .u64 (4294967296 * x3)) + (bitAnd .u64 (bitShl .u64 p_lo (IntKind.wrap .u64 r1)) 4294967295))) < (IntKind.wrap .u64 (x4 * (bitAnd .u64 (bitShl .u64 p_y (IntKind.wrap .u64 r1)) 4294967295)))))) then
  if decide (4294967296 ≤ (IntKind.wrap .u64 (x3 + (bitShr .u64 (bitShl .u64 p_y (IntKind.wrap .u64 r1)) 32)))) then
  j2 (IntKind.wrap .u64 (x4 - 1))
  else
  bits_Div64_l2 p_lo r1 p_y j2 m2 (IntKind.wrap .u64 (x3 + (bitShr .u64 (bitShl .u64 p_y (IntKind.wrap .u64 r1)) 32))) (IntKind.wrap .u64 (x4 - 1))
  else
  j2 x4
def bits_Div64 (p_hi : Int) (p_lo : Int) (p_y : Int) : Option (Int × Int) :=
  if decide (p_y = 0) then
  none
  else
  if decide (p_y ≤ p_hi) then
  none
  else
  if decide (p_hi = 0) then
  Chk (!decide (p_y = 0)) (
  Chk (!decide (p_y = 0)) (
  some (IntKind.wrap .u64 (Int.tdiv p_lo p_y), Int.tmod p_lo p_y)))
  else
  Option.bind (bits_LeadingZeros64 p_y) (fun r1 =>
  Chk (decide (0 ≤ (IntKind.wrap .u64 r1))) (
  Chk (decide (0 ≤ (IntKind.wrap .u64 r1))) (
  Chk (decide (0 ≤ (IntKind.wrap .u64 (64 - (IntKind.wrap .u64 r1))))) (
  Chk (decide (0 ≤ (IntKind.wrap .u64 r1))) (
  Chk (!decide ((bitShr .u64 (bitShl .u64 p_y (IntKind.wrap .u64 r1)) 32) = 0)) (
  Join (fun (x1 : Int) =>
  Chk (!decide ((bitShr .u64 (bitShl .u64 p_y (IntKind.wrap .u64 r1)) 32) = 0)) (
  Join (fun (x4 : Int) =>
  Chk (decide (0 ≤ (IntKind.wrap .u64 r1))) (
  some (IntKind.wrap .u64 ((IntKind.wrap .u64 (x1 * 4294967296)) + x4), bitShr .u64 (IntKind.wrap .u64 ((IntKind.wrap .u64 ((IntKind.wrap .u64 ((IntKind.wrap .u64 ((IntKind.wrap .u64 ((IntKind.wrap .u64 ((bitOr .u64 (bitShl .u64 p_hi (IntKind.wrap .u64 r1)) (bitShr .u64 p_lo (IntKind.wrap .u64 (64 - (IntKind.wrap .u64 r1))))) * 4294967296)) + (bitShr .u64 (bitShl .u64 p_lo (IntKind.wrap .u64 r1)) 32))) - (IntKind.wrap .u64 (x1 * (bitShl .u64 p_y (IntKind.wrap .u64 r1)))))) * 4294967296)) + (bitAnd .u64 (bitShl .u64 p_lo (IntKind.wrap .u64 r1)) 4294967295))) - (IntKind.wrap .u64 (x4 * (bitShl .u64 p_y (IntKind.wrap .u64 r1)))))) (IntKind.wrap .u64 r1)))) (fun j2 =>
  bits_Div64_l2 p_lo r1 p_y j2 (((IntKind.wrap .u64 (Int.tdiv (IntKind.wrap .u64 ((IntKind.wrap .u64 ((IntKind.wrap .u64 ((bitOr .u64 (bitShl .u64 p_hi (IntKind.wrap .u64 r1)) (bitShr .u64 p_lo (IntKind.wrap .u64 (64 - (IntKind.wrap .u64 r1))))) * 4294967296)) + (bitShr .u64 (bitShl .u64 p_lo (IntKind.wrap .u64 r1)) 32))) - (IntKind.wrap .u64 (x1 * (bitShl .u64 p_y (IntKind.wrap .u64 r1)))))) (bitShr .u64 (bitShl .u64 p_y (IntKind.wrap .u64 r1)) 32))) - 4294967296).toNat + 2) (IntKind.wrap .u64 ((IntKind.wrap .u64 ((IntKind.wrap .u64 ((IntKind.wrap .u64 ((bitOr .u64 (bitShl .u64 p_hi (IntKind.wrap .u64 r1)) (bitShr .u64 p_lo (IntKind.wrap .u64 (64 - (IntKind.wrap .u64 r1))))) * 4294967296)) + (bitShr .u64 (bitShl .u64 p_lo (IntKind.wrap .u64 r1)) 32))) - (IntKind.wrap .u64 (x1 * (bitShl .u64 p_y (IntKind.wrap .u64 r1)))))) - (IntKind.wrap .u64 ((IntKind.wrap .u64 (Int.tdiv (IntKind.wrap .u64 ((IntKind.wrap .u64 ((IntKind.wrap .u64 ((bitOr .u64 (bitShl .u64 p_hi (IntKind.wrap .u64 r1)) (bitShr .u64 p_lo (IntKind.wrap .u64 (64 - (IntKind.wrap .u64 r1))))) * 4294967296)) + (bitShr .u64 (bitShl .u64 p_lo (IntKind.wrap .u64 r1)) 32))) - (IntKind.wrap .u64 (x1 * (bitShl .u64 p_y (IntKind.wrap .u64 r1)))))) (bitShr .u64 (bitShl .u64 p_y (IntKind.wrap .u64 r1)) 32))) * (bitShr .u64 (bitShl .u64 p_y (IntKind.wrap .u64 r1)) 32))))) (IntKind.wrap .u64 (Int.tdiv (IntKind.wrap .u64 ((IntKind.wrap .u64 ((IntKind.wrap .u64 ((bitOr .u64 (bitShl .u64 p_hi (IntKind.wrap .u64 r1)) (bitShr .u64 p_lo (IntKind.wrap .u64 (64 - (IntKind.wrap .u64 r1))))) * 4294967296)) + (bitShr .u64 (bitShl .u64 p_lo (IntKind.wrap .u64 r1)) 32))) - (IntKind.wrap .u64 (x1 * (bitShl .u64 p_y (IntKind.wrap .u64 r1)))))) (bitShr .u64 (bitShl .u64 p_y (IntKind.wrap .u64 r1)) 32)))))) (fun j1 =>
  bits_Div64_l1 p_lo r1 p_y j1 (((IntKind.wrap .u64 (Int.tdiv (bitOr .u64 (bitShl .u64 p_hi (IntKind.wrap .u64 r1)) (bitShr .u64 p_lo (IntKind.wrap .u64 (64 - (IntKind.wrap .u64 r1))))) (bitShr .u64 (bitShl .u64 p_y (IntKind.wrap .u64 r1)) 32))) - 4294967296).toNat + 2) (IntKind.wrap .u64 (Int.tdiv (bitOr .u64 (bitShl .u64 p_hi (IntKind.wrap .u64 r1)) (bitShr .u64 p_lo (IntKind.wrap .u64 (64 - (IntKind.wrap .u64 r1))))) (bitShr .u64 (bitShl .u64 p_y (IntKind.wrap .u64 r1)) 32))) (IntKind.wrap .u64 ((bitOr .u64 (bitShl .u64 p_hi (IntKind.wrap .u64 r1)) (bitShr .u64 p_lo (IntKind.wrap .u64 (64 - (IntKind.wrap .u64 r1))))) - (IntKind.wrap .u64 ((IntKind.wrap .u64 (Int.tdiv (bitOr .u64 (bitShl .u64 p_hi (IntKind.wrap .u64 r1)) (bitShr .u64 p_lo (IntKind.wrap .u64 (64 - (IntKind.wrap .u64 r1))))) (bitShr .u64 (bitShl .u64 p_y (IntKind.wrap .u64 r1)) 32))) * (bitShr .u64 (bitShl .u64 p_y (IntKind.wrap .u64 r1)) 32))))))))))))
def points_byTime (p_base : Int) (p_time : Int) : Option Int :=
  if decide ((IntKind.wrap .u64 ((IntKind.wrap .u64 ((IntKind.wrap .u64 p_time) * (IntKind.wrap .u64 p_time))) * (IntKind.wrap .u64 p_time))) ≤ ((bits_Mul64 (IntKind.wrap .u64 ((IntKind.wrap .u64 ((IntKind.wrap .u64 p_base) * (IntKind.wrap .u64 p_base))) * (IntKind.wrap .u64 p_base))) 1000).1)) then
  some 1000000000
  else
  Option.bind (bits_Div64 ((bits_Mul64 (IntKind.wrap .u64 ((IntKind.wrap .u64 ((IntKind.wrap .u64 p_base) * (IntKind.wrap .u64 p_base))) * (IntKind.wrap .u64 p_base))) 1000).1) ((bits_Mul64 (IntKind.wrap .u64 ((IntKind.wrap .u64 ((IntKind.wrap .u64 p_base) * (IntKind.wrap .u64 p_base))) * (IntKind.wrap .u64 p_base))) 1000).2) (IntKind.wrap .u64 ((IntKind.wrap .u64 ((IntKind.wrap .u64 p_time) * (IntKind.wrap .u64 p_time))) * (IntKind.wrap .u64 p_time)))) (fun r1 =>
  some (W (imin r1.1 1000000000)))
def points_ByTime (p_l : List GBase) (p_race : ByteArray) (p_time : Int) : Option (Int × Int) :=
  Option.bind (points_CheckBase p_l) (fun r1 =>
  if !decide (r1 = 0) then
  some (0, r1)
  else
  if decide ((points_baseOf p_l p_race) = 0) then
  some (0, 8)
  else
  if !(timing_IsTime p_time) then
  some (0, 1)
  else
  Option.bind (points_byTime (points_baseOf p_l p_race) p_time) (fun r2 =>
  some (r2, 0)))
def record_CheckKinds_l2 (j4 : Option Int) : List ByteArray → Nat → Option Int
  | [], _ => j4
  | y2 :: ys2, i2 => Option.bind (words_IsKey y2) (fun r3 =>
  if !r3 then
  some 5
  else
  Join (fun (c3 : Bool) =>
  if c3 then
  some 7
  else
  record_CheckKinds_l2 j4 ys2 (i2 + 1)) (fun j5 =>
  if (decide (0 < (i2 : Int))) then Chk (inB (W ((i2 : Int) - 1)) ([] : List ByteArray).length) (
  j5 ((decide (0 < (i2 : Int))) && (Sless y2 (nth ([] : List ByteArray) (W ((i2 : Int) - 1))) || decide (y2 = (nth ([] : List ByteArray) (W ((i2 : Int) - 1))))))) else j5 ((decide (0 < (i2 : Int))) && true)))
def record_CheckKinds_l1 (p_l : List GKind) (j1 : Option Int) : List GKind → Nat → Option Int
  | [], _ => j1
  | y1 :: ys1, i1 => Option.bind (words_IsKey y1.Key) (fun r1 =>
  Join (fun (c1 : Bool) =>
  if c1 then
  some 5
  else
  Join (fun (c2 : Bool) =>
  if c2 then
  some 7
  else
  if decide (100 < (([] : List ByteArray).length : Int)) then
  some 2
  else
  Join (if (((decide (y1.Young < 0)) || (decide (y1.Old < y1.Young))) || (decide (150 < y1.Old))) then
  some 1
  else
  record_CheckKinds_l1 p_l j1 ys1 (i1 + 1)) (fun j4 =>
  record_CheckKinds_l2 j4 ([] : List ByteArray) 0)) (fun j3 =>
  if (decide (0 < (i1 : Int))) then Chk (inB (W ((i1 : Int) - 1)) p_l.length) (
  j3 ((decide (0 < (i1 : Int))) && (Sless y1.Key ((nth p_l (W ((i1 : Int) - 1))).Key) || decide (y1.Key = ((nth p_l (W ((i1 : Int) - 1))).Key))))) else j3 ((decide (0 < (i1 : Int))) && true))) (fun j2 =>
  if (!r1) then j2 ((!r1) || true) else Option.bind (words_IsKey y1.Race) (fun r2 =>
  j2 ((!r1) || (!r2)))))
def record_CheckKinds (p_l : List GKind) : Option Int :=
  if decide (50 < (p_l.length : Int)) then
  some 2
  else
  Join (some 0) (fun j1 =>
  record_CheckKinds_l1 p_l j1 p_l 0)
def record_checkStep (p_x : GStep) : Option Int :=
  Join (some 0) (fun j1 =>
  if !(words_IsMoment p_x.At) then
  some 1
  else
  if !(words_Within p_x.Kind 1 3) then
  some 4
  else
  Option.bind (words_IsKey p_x.Id) (fun r1 =>
  if !r1 then
  some 5
  else
  Join (j1) (fun j2 =>
  if !decide (p_x.Kind = 1) then
  if !decide (p_x = (GStep.mk p_x.At p_x.Kind p_x.Id k_empty k_empty k_empty 0 0)) then
  some 3
  else
  j2
  else
  Option.bind (words_IsKey p_x.Who) (fun r2 =>
  Join (fun (c1 : Bool) =>
  Join (fun (c2 : Bool) =>
  if c2 then
  some 5
  else
  if ((!(words_Within p_x.Age 0 150)) || (!(timing_IsTime p_x.Time))) then
  some 1
  else
  j2) (fun j4 =>
  if c1 then j4 (c1 || true) else Join (fun (c3 : Bool) =>
  j4 (c1 || c3)) (fun j5 =>
  if (!decide (p_x.Club = k_empty)) then Option.bind (words_IsKey p_x.Club) (fun r4 =>
  j5 ((!decide (p_x.Club = k_empty)) && (!r4))) else j5 ((!decide (p_x.Club = k_empty)) && true)))) (fun j3 =>
  if (!r2) then j3 ((!r2) || true) else Option.bind (words_IsKey p_x.Race) (fun r3 =>
  j3 ((!r2) || (!r3))))))))
def record_checkSwum (p_s : GStep) : Option Int :=
  Option.bind (record_checkStep p_s) (fun r1 =>
  if !decide (r1 = 0) then
  some r1
  else
  if !decide (p_s.Kind = 1) then
  some 4
  else
  some 0)
def slices_Index_string_l1 (p_v : ByteArray) (j1 : Int) : List ByteArray → Nat → Int
  | [], _ => j1
  | y1 :: ys1, i1 => if decide (p_v = y1) then
  (i1 : Int)
  else
  slices_Index_string_l1 p_v j1 ys1 (i1 + 1)
def slices_Index_string (p_s : List ByteArray) (p_v : ByteArray) : Int :=
  Join ((-1)) (fun j1 =>
  slices_Index_string_l1 p_v j1 p_s 0)
def slices_Contains_string (p_s : List ByteArray) (p_v : ByteArray) : Bool :=
  decide (0 ≤ (slices_Index_string p_s p_v))
def record_isFor (p_k : GKind) (p_s : GStep) : Bool :=
  (((decide (p_s.Race = p_k.Race)) && ((decide ((([] : List ByteArray).length : Int) = 0)) || (slices_Contains_string ([] : List ByteArray) p_s.Club))) && (words_Within p_s.Age p_k.Young p_k.Old))
def record_For_l1 (p_s : GStep) (j1 : (List ByteArray) → Option ((List ByteArray) × Int)) : List GKind → Nat → (List ByteArray) → Option ((List ByteArray) × Int)
  | [], _, x1 => j1 x1
  | y1 :: ys1, i1, x1 => Join (fun (x2 : List ByteArray) =>
  record_For_l1 p_s j1 ys1 (i1 + 1) x2) (fun j2 =>
  Join (fun (x3 : List ByteArray) =>
  j2 x3) (fun j3 =>
  if (record_isFor y1 p_s) then
  Chk (room x1.length) (
  j3 (x1 ++ [y1.Key]))
  else
  j3 x1))
def record_For (p_l : List GKind) (p_s : GStep) : Option ((List ByteArray) × Int) :=
  Option.bind (record_CheckKinds p_l) (fun r1 =>
  if !decide (r1 = 0) then
  some (([] : List ByteArray), r1)
  else
  Option.bind (record_checkSwum p_s) (fun r2 =>
  if !decide (r2 = 0) then
  some (([] : List ByteArray), r2)
  else
  Join (fun (x1 : List ByteArray) =>
  some (x1, 0)) (fun j1 =>
  record_For_l1 p_s j1 p_l 0 ([] : List ByteArray))))
def tumbkeep2_errs_l1 (j1 : Int) : List Int → Nat → Int
  | [], _ => j1
  | y1 :: ys1, i1 => if !decide (y1 = 0) then
  y1
  else
  tumbkeep2_errs_l1 j1 ys1 (i1 + 1)
def tumbkeep2_errs (p_l : List Int) : Int :=
  Join (0) (fun j1 =>
  tumbkeep2_errs_l1 j1 p_l 0)
def tumbkeep2_ready : Option Bool :=
  Option.bind (swimmer_DayOf (GDate.mk 2024 3 1)) (fun r1 =>
  Option.bind (session_Ends [(GItem.mk k_a 2 10 5 0)] 0) (fun r2 =>
  Option.bind (points_ByTime [(GBase.mk k_r 3000)] k_r 6000) (fun r3 =>
  Option.bind (record_For [(GKind.mk k_k k_r () 0 9)] (GStep.mk 0 1 k_i k_a k_empty k_r 0 5)) (fun r4 =>
  some (((((decide ((tumbkeep2_errs [r1.2, r2.2, r3.2, r4.2]) = 0)) && (decide (r1.1 = 60))) && (decide (r2.1 = 25))) && (decide (r3.1 = 125))) && (decide ((r4.1.length : Int) = 1)))))))
def timing_CheckRace (p_r : GRace) : Option Int :=
  Option.bind (words_IsKey p_r.Key) (fun r1 =>
  if !r1 then
  some 5
  else
  if ((!(words_Within p_r.Stroke 1 5)) || (!(words_Within p_r.Sex 0 2))) then
  some 4
  else
  if (((((((!decide (p_r.Course = 25)) && (!decide (p_r.Course = 50))) || (!(words_Within p_r.Legs 1 4))) || (!(words_Within p_r.Metres 25 1500))) || (decide (p_r.Young < 0))) || (decide (p_r.Old < p_r.Young))) || (decide (120 < p_r.Old))) then
  some 1
  else
  Chk (!decide (p_r.Course = 0)) (
  if !decide ((Int.tmod p_r.Metres p_r.Course) = 0) then
  some 3
  else
  Join (fun (c1 : Bool) =>
  Join (fun (x1 : Bool) =>
  if x1 then
  some 16
  else
  some 0) (fun j2 =>
  if c1 then
  j2 c1
  else
  j2 (((decide (p_r.Stroke = 5)) && (decide (1 < p_r.Legs))) && (!decide (p_r.Legs = 4))))) (fun j1 =>
  if ((decide (p_r.Stroke = 5)) && (decide (p_r.Legs = 1))) then Chk (!decide ((W (4 * p_r.Course)) = 0)) (
  j1 (((decide (p_r.Stroke = 5)) && (decide (p_r.Legs = 1))) && (!decide ((Int.tmod p_r.Metres (W (4 * p_r.Course))) = 0)))) else j1 (((decide (p_r.Stroke = 5)) && (decide (p_r.Legs = 1))) && true))))
def swimmer_checkRaces_l1 (p_r : List GRace) (j1 : Option Int) : List GRace → Nat → Option Int
  | [], _ => j1
  | y1 :: ys1, i1 => Option.bind (timing_CheckRace y1) (fun r1 =>
  if !decide (r1 = 0) then
  some r1
  else
  Join (fun (c1 : Bool) =>
  if c1 then
  some 7
  else
  swimmer_checkRaces_l1 p_r j1 ys1 (i1 + 1)) (fun j2 =>
  if (decide (0 < (i1 : Int))) then Chk (inB (W ((i1 : Int) - 1)) p_r.length) (
  j2 ((decide (0 < (i1 : Int))) && (Sless y1.Key ((nth p_r (W ((i1 : Int) - 1))).Key) || decide (y1.Key = ((nth p_r (W ((i1 : Int) - 1))).Key))))) else j2 ((decide (0 < (i1 : Int))) && true)))
def swimmer_checkRaces (p_r : List GRace) : Option Int :=
  if decide (100 < (p_r.length : Int)) then
  some 2
  else
  Join (some 0) (fun j1 =>
  swimmer_checkRaces_l1 p_r j1 p_r 0)
def swimmer_CheckSwimmers_l1 (p_l : List GSwimmer) (j1 : Option Int) : List GSwimmer → Nat → Option Int
  | [], _ => j1
  | y1 :: ys1, i1 => Option.bind (words_IsKey y1.Key) (fun r1 =>
  if !r1 then
  some 5
  else
  Join (fun (c1 : Bool) =>
  if c1 then
  some 7
  else
  if (((!decide (y1.Sex = 1)) && (!decide (y1.Sex = 2))) || (!(swimmer_isDay y1.Born))) then
  some 1
  else
  swimmer_CheckSwimmers_l1 p_l j1 ys1 (i1 + 1)) (fun j2 =>
  if (decide (0 < (i1 : Int))) then Chk (inB (W ((i1 : Int) - 1)) p_l.length) (
  j2 ((decide (0 < (i1 : Int))) && (Sless y1.Key ((nth p_l (W ((i1 : Int) - 1))).Key) || decide (y1.Key = ((nth p_l (W ((i1 : Int) - 1))).Key))))) else j2 ((decide (0 < (i1 : Int))) && true)))
def swimmer_CheckSwimmers (p_l : List GSwimmer) : Option Int :=
  if decide (500 < (p_l.length : Int)) then
  some 2
  else
  Join (some 0) (fun j1 =>
  swimmer_CheckSwimmers_l1 p_l j1 p_l 0)
def strings_Compare (s t : ByteArray) : Int := Lib.compareBytes s.data.toList t.data.toList
def cmp_isNaN_int (p_x : Int) : Bool :=
  !decide (p_x = p_x)
def cmp_Compare_int (p_x : Int) (p_y : Int) : Int :=
  if (cmp_isNaN_int p_x) then
  if (cmp_isNaN_int p_y) then
  0
  else
  (-1)
  else
  if (cmp_isNaN_int p_y) then
  1
  else
  if decide (p_x < p_y) then
  (-1)
  else
  if decide (p_y < p_x) then
  1
  else
  0
def cmp_Or_int_l1 (j1 : Int) : List Int → Nat → Int
  | [], _ => j1
  | y1 :: ys1, i1 => if !decide (y1 = 0) then
  y1
  else
  cmp_Or_int_l1 j1 ys1 (i1 + 1)
def cmp_Or_int (p_vals : List Int) : Int :=
  Join (0) (fun j1 =>
  cmp_Or_int_l1 j1 p_vals 0)
def swimmer_CheckMoves_l1 (p_l : List GMove) (j1 : Option Int) : List GMove → Nat → Option Int
  | [], _ => j1
  | y1 :: ys1, i1 => Join (fun (c1 : Bool) =>
  Option.bind (words_IsKey y1.Who) (fun r1 =>
  Join (fun (c2 : Bool) =>
  if c2 then
  some 5
  else
  if !(swimmer_isDay y1.Day) then
  some 1
  else
  Join (fun (x1 : Bool) =>
  if x1 then
  some 7
  else
  Join (fun (x2 : Bool) =>
  if x2 then
  some 3
  else
  swimmer_CheckMoves_l1 p_l j1 ys1 (i1 + 1)) (fun j6 =>
  if (c1 && (decide (y1.Club = k_empty))) then
  j6 (c1 && (decide (y1.Club = k_empty)))
  else
  Join (fun (c4 : Bool) =>
  j6 c4) (fun j7 =>
  if (!c1) then Chk (inB (W ((i1 : Int) - 1)) p_l.length) (
  j7 ((!c1) && (decide (((nth p_l (W ((i1 : Int) - 1))).Club) = y1.Club)))) else j7 ((!c1) && true)))) (fun j5 =>
  if decide (0 < (i1 : Int)) then
  Chk (inB (W ((i1 : Int) - 1)) p_l.length) (
  Chk (inB (W ((i1 : Int) - 1)) p_l.length) (
  j5 (decide (0 ≤ (cmp_Or_int [(strings_Compare ((nth p_l (W ((i1 : Int) - 1))).Who) y1.Who), (cmp_Compare_int ((nth p_l (W ((i1 : Int) - 1))).Day) y1.Day)])))))
  else
  j5 false)) (fun j3 =>
  if (!r1) then j3 ((!r1) || true) else Join (fun (c3 : Bool) =>
  j3 ((!r1) || c3)) (fun j4 =>
  if (!decide (y1.Club = k_empty)) then Option.bind (words_IsKey y1.Club) (fun r2 =>
  j4 ((!decide (y1.Club = k_empty)) && (!r2))) else j4 ((!decide (y1.Club = k_empty)) && true))))) (fun j2 =>
  if (decide ((i1 : Int) = 0)) then j2 ((decide ((i1 : Int) = 0)) || true) else Chk (inB (W ((i1 : Int) - 1)) p_l.length) (
  j2 ((decide ((i1 : Int) = 0)) || (!decide (((nth p_l (W ((i1 : Int) - 1))).Who) = y1.Who)))))
def swimmer_CheckMoves (p_l : List GMove) : Option Int :=
  if decide (1000 < (p_l.length : Int)) then
  some 2
  else
  Join (some 0) (fun j1 =>
  swimmer_CheckMoves_l1 p_l j1 p_l 0)
def swimmer_isWay (p_n : Int) : Bool :=
  ((decide (p_n = 1)) || (decide (p_n = 2)))
def swimmer_checkBounds (p_b : GBounds) : Int :=
  if ((!(words_Within p_b.Races 0 100)) || (!(words_Within p_b.Club 0 1500))) then
  1
  else
  if !(swimmer_isWay p_b.Age) then
  4
  else
  if !(swimmer_isDay p_b.Day) then
  1
  else
  0
def swimmer_checkMeet (p_r : List GRace) (p_s : List GSwimmer) (p_m : List GMove) (p_b : GBounds) : Option Int :=
  Option.bind (swimmer_checkRaces p_r) (fun r1 =>
  if !decide (r1 = 0) then
  some r1
  else
  Option.bind (swimmer_CheckSwimmers p_s) (fun r2 =>
  if !decide (r2 = 0) then
  some r2
  else
  Option.bind (swimmer_CheckMoves p_m) (fun r3 =>
  if !decide (r3 = 0) then
  some r3
  else
  some (swimmer_checkBounds p_b))))
def swimmer_CheckEntries_l1 (j1 : (List (GEntry × Bool)) → Bool → Option Int) : List GEntry → Nat → (List (GEntry × Bool)) → Bool → Option Int
  | [], _, x1, x2 => j1 x1 x2
  | y1 :: ys1, i1, x1, x2 => Option.bind (words_IsKey y1.Who) (fun r1 =>
  Join (fun (c1 : Bool) =>
  if c1 then
  some 5
  else
  swimmer_CheckEntries_l1 j1 ys1 (i1 + 1) (mput x1 y1 true) (x2 || (mgetD x1 y1 false))) (fun j2 =>
  if (!r1) then j2 ((!r1) || true) else Option.bind (words_IsKey y1.Race) (fun r2 =>
  j2 ((!r1) || (!r2)))))
def swimmer_CheckEntries (p_l : List GEntry) : Option Int :=
  if decide (1500 < (p_l.length : Int)) then
  some 2
  else
  Join (fun (x1 : List (GEntry × Bool)) (x2 : Bool) =>
  if x2 then
  some 6
  else
  some 0) (fun j1 =>
  swimmer_CheckEntries_l1 j1 p_l 0 ([] : List (GEntry × Bool)) false)
def swimmer_raceOf_c1 (p_x : GRace) (p_a1 : ByteArray) : Bool :=
  decide (p_x.Key = p_a1)
def slices_IndexFunc_Race_swimmer_raceOf_c1_l1 (p_f_0 : ByteArray) (j1 : Int) : List GRace → Nat → Int
  | [], _ => j1
  | y1 :: ys1, i1 => if (swimmer_raceOf_c1 y1 p_f_0) then
  (i1 : Int)
  else
  slices_IndexFunc_Race_swimmer_raceOf_c1_l1 p_f_0 j1 ys1 (i1 + 1)
def slices_IndexFunc_Race_swimmer_raceOf_c1 (p_s : List GRace) (p_f_0 : ByteArray) : Int :=
  Join ((-1)) (fun j1 =>
  slices_IndexFunc_Race_swimmer_raceOf_c1_l1 p_f_0 j1 p_s 0)
def swimmer_raceOf (p_r : List GRace) (p_key : ByteArray) : Option (GRace × Bool) :=
  if decide ((slices_IndexFunc_Race_swimmer_raceOf_c1 p_r p_key) < 0) then
  some ((GRace.mk k_empty 0 0 0 0 0 0 0), false)
  else
  Chk (inB (slices_IndexFunc_Race_swimmer_raceOf_c1 p_r p_key) p_r.length) (
  some ((nth p_r (slices_IndexFunc_Race_swimmer_raceOf_c1 p_r p_key)), true))
def swimmer_swimmerOf_c1 (p_x : GSwimmer) (p_a1 : ByteArray) (p_a2 : Int) : Bool :=
  ((decide (p_x.Key = p_a1)) && (decide (p_x.Born ≤ p_a2)))
def slices_IndexFunc_Swimmer_swimmer_swimmerOf_c1_l1 (p_f_0 : ByteArray) (p_f_1 : Int) (j1 : Int) : List GSwimmer → Nat → Int
  | [], _ => j1
  | y1 :: ys1, i1 => if (swimmer_swimmerOf_c1 y1 p_f_0 p_f_1) then
  (i1 : Int)
  else
  slices_IndexFunc_Swimmer_swimmer_swimmerOf_c1_l1 p_f_0 p_f_1 j1 ys1 (i1 + 1)
def slices_IndexFunc_Swimmer_swimmer_swimmerOf_c1 (p_s : List GSwimmer) (p_f_0 : ByteArray) (p_f_1 : Int) : Int :=
  Join ((-1)) (fun j1 =>
  slices_IndexFunc_Swimmer_swimmer_swimmerOf_c1_l1 p_f_0 p_f_1 j1 p_s 0)
def swimmer_swimmerOf (p_s : List GSwimmer) (p_key : ByteArray) (p_day : Int) : Option (GSwimmer × Bool) :=
  if decide ((slices_IndexFunc_Swimmer_swimmer_swimmerOf_c1 p_s p_key p_day) < 0) then
  some ((GSwimmer.mk k_empty 0 0), false)
  else
  Chk (inB (slices_IndexFunc_Swimmer_swimmer_swimmerOf_c1 p_s p_key p_day) p_s.length) (
  some ((nth p_s (slices_IndexFunc_Swimmer_swimmer_swimmerOf_c1 p_s p_key p_day)), true))
def swimmer_clubAt_l1 (p_who : ByteArray) (p_day : Int) (j1 : ByteArray → ByteArray) : List GMove → Nat → ByteArray → ByteArray
  | [], _, x1 => j1 x1
  | y1 :: ys1, i1, x1 => Join (fun (x2 : ByteArray) =>
  swimmer_clubAt_l1 p_who p_day j1 ys1 (i1 + 1) x2) (fun j2 =>
  Join (fun (x3 : ByteArray) =>
  j2 x3) (fun j3 =>
  if ((decide (y1.Who = p_who)) && (decide (y1.Day ≤ p_day))) then
  j3 y1.Club
  else
  j3 x1))
def swimmer_clubAt (p_l : List GMove) (p_who : ByteArray) (p_day : Int) : ByteArray :=
  Join (fun (x1 : ByteArray) =>
  x1) (fun j1 =>
  swimmer_clubAt_l1 p_who p_day j1 p_l 0 k_empty)
def swimmer_dateOf_l1 (j1 : Int → Int → Option GDate) : Nat → Int → Int → Option GDate
  | 0, _, _ => none
  | m1 + 1, x1, x2 => if decide (x2 < 0) then
  swimmer_dateOf_l1 j1 m1 (W (x1 - 1)) (W (x2 + (swimmer_yearLong (W (x1 - 1)))))
  else
  j1 x1 x2
def swimmer_dateOf_l2 (j2 : Int → Int → Option GDate) : Nat → Int → Int → Option GDate
  | 0, _, _ => none
  | m2 + 1, x3, x4 => if decide ((swimmer_yearLong x3) ≤ x4) then
  swimmer_dateOf_l2 j2 m2 (W (x3 + 1)) (W (x4 - (swimmer_yearLong x3)))
  else
  j2 x3 x4
def swimmer_dateOf_l3 (x3 : Int) (j3 : Int → Int → Option GDate) : Nat → Int → Int → Option GDate
  | 0, _, _ => none
  | m3 + 1, x5, x6 => if decide ((swimmer_long x3 x5) ≤ x6) then
  swimmer_dateOf_l3 x3 j3 m3 (W (x5 + 1)) (W (x6 - (swimmer_long x3 x5)))
  else
  j3 x5 x6
def swimmer_dateOf (p_day : Int) : Option GDate :=
  Join (fun (x1 : Int) (x2 : Int) =>
  Join (fun (x3 : Int) (x4 : Int) =>
  Join (fun (x5 : Int) (x6 : Int) =>
  some (GDate.mk x3 x5 (W (x6 + 1)))) (fun j3 =>
  swimmer_dateOf_l3 x3 j3 ((x4 - (swimmer_long x3 1)).toNat + 2) 1 x4)) (fun j2 =>
  swimmer_dateOf_l2 j2 ((x2 - (swimmer_yearLong x1)).toNat + 2) x1 x2)) (fun j1 =>
  swimmer_dateOf_l1 j1 ((0 - p_day).toNat + 2) 2024 p_day)
def swimmer_age (p_s : GSwimmer) (p_day : Int) (p_way : Int) : Option Int :=
  Option.bind (swimmer_dateOf p_s.Born) (fun r1 =>
  Option.bind (swimmer_dateOf p_day) (fun r2 =>
  Join (fun (x1 : Bool) =>
  Join (fun (x2 : Int) =>
  some x2) (fun j2 =>
  if x1 then
  j2 (W ((W (r2.Year - r1.Year)) - 1))
  else
  j2 (W (r2.Year - r1.Year)))) (fun j1 =>
  if decide (p_way = 1) then
  j1 (decide ((cmp_Or_int [(cmp_Compare_int r2.Month r1.Month), (cmp_Compare_int r2.Day r1.Day)]) < 0))
  else
  j1 false)))
def swimmer_may (p_r : GRace) (p_s : GSwimmer) (p_day : Int) (p_way : Int) : Option Bool :=
  Join (fun (x1 : Bool) =>
  some x1) (fun j1 =>
  if decide (p_r.Sex = 0) then
  if true then
  Option.bind (swimmer_age p_s p_day p_way) (fun r1 =>
  j1 (words_Within r1 p_r.Young p_r.Old))
  else
  j1 false
  else
  if decide (p_r.Sex = p_s.Sex) then
  Option.bind (swimmer_age p_s p_day p_way) (fun r2 =>
  j1 (words_Within r2 p_r.Young p_r.Old))
  else
  j1 false)
def swimmer_Refused_l1 (p_r : List GRace) (p_s : List GSwimmer) (p_b : GBounds) (p_m : List GMove) (j1 : (List Int) → (List (Gswimmer_place × Int)) → (List (ByteArray × Int)) → Option ((List Int) × Int)) : List GEntry → Nat → (List Int) → (List (Gswimmer_place × Int)) → (List (ByteArray × Int)) → Option ((List Int) × Int)
  | [], _, x1, x2, x3 => j1 x1 x2 x3
  | y1 :: ys1, i1, x1, x2, x3 => Join (fun (x4 : List Int) (x5 : List (Gswimmer_place × Int)) (x6 : List (ByteArray × Int)) =>
  swimmer_Refused_l1 p_r p_s p_b p_m j1 ys1 (i1 + 1) x4 x5 x6) (fun j2 =>
  Option.bind (swimmer_raceOf p_r y1.Race) (fun r3 =>
  Option.bind (swimmer_swimmerOf p_s y1.Who p_b.Day) (fun r4 =>
  Join (Join (fun (x7 : Bool) =>
  if x7 then
  Chk (room x1.length) (
  j2 (x1 ++ [(i1 : Int)]) x2 x3)
  else
  Join (j2 x1 (mput x2 (Gswimmer_place.mk (swimmer_clubAt p_m y1.Who p_b.Day) y1.Race) (W ((mgetD x2 (Gswimmer_place.mk (swimmer_clubAt p_m y1.Who p_b.Day) y1.Race) 0) + 1))) (mput x3 y1.Who (W ((mgetD x3 y1.Who 0) + 1)))) (fun j5 =>
  j5)) (fun j4 =>
  if !r3.2 then
  if true then
  if true then
  j4 ((true || (decide (p_b.Races ≤ (mgetD x3 y1.Who 0)))) || ((!decide ((swimmer_clubAt p_m y1.Who p_b.Day) = k_empty)) && (decide (p_b.Club ≤ (mgetD x2 (Gswimmer_place.mk (swimmer_clubAt p_m y1.Who p_b.Day) y1.Race) 0)))))
  else
  Option.bind (swimmer_may r3.1 r4.1 p_b.Day p_b.Age) (fun r5 =>
  j4 (((!r5) || (decide (p_b.Races ≤ (mgetD x3 y1.Who 0)))) || ((!decide ((swimmer_clubAt p_m y1.Who p_b.Day) = k_empty)) && (decide (p_b.Club ≤ (mgetD x2 (Gswimmer_place.mk (swimmer_clubAt p_m y1.Who p_b.Day) y1.Race) 0))))))
  else
  if !r4.2 then
  j4 ((true || (decide (p_b.Races ≤ (mgetD x3 y1.Who 0)))) || ((!decide ((swimmer_clubAt p_m y1.Who p_b.Day) = k_empty)) && (decide (p_b.Club ≤ (mgetD x2 (Gswimmer_place.mk (swimmer_clubAt p_m y1.Who p_b.Day) y1.Race) 0)))))
  else
  Option.bind (swimmer_may r3.1 r4.1 p_b.Day p_b.Age) (fun r6 =>
  j4 (((!r6) || (decide (p_b.Races ≤ (mgetD x3 y1.Who 0)))) || ((!decide ((swimmer_clubAt p_m y1.Who p_b.Day) = k_empty)) && (decide (p_b.Club ≤ (mgetD x2 (Gswimmer_place.mk (swimmer_clubAt p_m y1.Who p_b.Day) y1.Race) 0))))))
  else
  if decide (1 < r3.1.Legs) then
  if true then
  j4 ((true || (decide (p_b.Races ≤ (mgetD x3 y1.Who 0)))) || ((!decide ((swimmer_clubAt p_m y1.Who p_b.Day) = k_empty)) && (decide (p_b.Club ≤ (mgetD x2 (Gswimmer_place.mk (swimmer_clubAt p_m y1.Who p_b.Day) y1.Race) 0)))))
  else
  Option.bind (swimmer_may r3.1 r4.1 p_b.Day p_b.Age) (fun r7 =>
  j4 (((!r7) || (decide (p_b.Races ≤ (mgetD x3 y1.Who 0)))) || ((!decide ((swimmer_clubAt p_m y1.Who p_b.Day) = k_empty)) && (decide (p_b.Club ≤ (mgetD x2 (Gswimmer_place.mk (swimmer_clubAt p_m y1.Who p_b.Day) y1.Race) 0))))))
  else
  if !r4.2 then
  j4 ((true || (decide (p_b.Races ≤ (mgetD x3 y1.Who 0)))) || ((!decide ((swimmer_clubAt p_m y1.Who p_b.Day) = k_empty)) && (decide (p_b.Club ≤ (mgetD x2 (Gswimmer_place.mk (swimmer_clubAt p_m y1.Who p_b.Day) y1.Race) 0)))))
  else
  Option.bind (swimmer_may r3.1 r4.1 p_b.Day p_b.Age) (fun r8 =>
  j4 (((!r8) || (decide (p_b.Races ≤ (mgetD x3 y1.Who 0)))) || ((!decide ((swimmer_clubAt p_m y1.Who p_b.Day) = k_empty)) && (decide (p_b.Club ≤ (mgetD x2 (Gswimmer_place.mk (swimmer_clubAt p_m y1.Who p_b.Day) y1.Race) 0)))))))) (fun j3 =>
  j3))))
def swimmer_Refused (p_r : List GRace) (p_s : List GSwimmer) (p_m : List GMove) (p_b : GBounds) (p_l : List GEntry) : Option ((List Int) × Int) :=
  Option.bind (swimmer_checkMeet p_r p_s p_m p_b) (fun r1 =>
  if !decide (r1 = 0) then
  some (([] : List Int), r1)
  else
  Option.bind (swimmer_CheckEntries p_l) (fun r2 =>
  if !decide (r2 = 0) then
  some (([] : List Int), r2)
  else
  Join (fun (x1 : List Int) (x2 : List (Gswimmer_place × Int)) (x3 : List (ByteArray × Int)) =>
  some (x1, 0)) (fun j1 =>
  swimmer_Refused_l1 p_r p_s p_b p_m j1 p_l 0 ([] : List Int) ([] : List (Gswimmer_place × Int)) ([] : List (ByteArray × Int)))))
def slices_Index_int_l1 (p_v : Int) (j1 : Int) : List Int → Nat → Int
  | [], _ => j1
  | y1 :: ys1, i1 => if decide (p_v = y1) then
  (i1 : Int)
  else
  slices_Index_int_l1 p_v j1 ys1 (i1 + 1)
def slices_Index_int (p_s : List Int) (p_v : Int) : Int :=
  Join ((-1)) (fun j1 =>
  slices_Index_int_l1 p_v j1 p_s 0)
def slices_Contains_int (p_s : List Int) (p_v : Int) : Bool :=
  decide (0 ≤ (slices_Index_int p_s p_v))
def tumbkeep2_EntriesKeepBounds_l1 (r9 : (List Int) × Int) (j2 : (List GEntry) → Option Bool) : List GEntry → Nat → (List GEntry) → Option Bool
  | [], _, x1 => j2 x1
  | y1 :: ys1, i1, x1 => Join (fun (x2 : List GEntry) =>
  tumbkeep2_EntriesKeepBounds_l1 r9 j2 ys1 (i1 + 1) x2) (fun j3 =>
  Join (fun (x3 : List GEntry) =>
  j3 x3) (fun j4 =>
  if !(slices_Contains_int r9.1 (i1 : Int)) then
  Chk (room x1.length) (
  j4 (x1 ++ [y1]))
  else
  j4 x1))
def tumbkeep2_EntriesKeepBounds_l3 (y2 : GEntry) (j6 : Int → Int → Option Bool) : List GEntry → Nat → Int → Int → Option Bool
  | [], _, x4, x5 => j6 x4 x5
  | y3 :: ys3, i3, x4, x5 => Join (fun (x6 : Int) (x7 : Int) =>
  tumbkeep2_EntriesKeepBounds_l3 y2 j6 ys3 (i3 + 1) x6 x7) (fun j7 =>
  Join (fun (x8 : Int) =>
  Join (fun (x9 : Int) =>
  j7 x8 x9) (fun j9 =>
  if decide (y3.Race = y2.Race) then
  j9 (W (x5 + 1))
  else
  j9 x5)) (fun j8 =>
  if decide (y3.Who = y2.Who) then
  j8 (W (x4 + 1))
  else
  j8 x4))
def tumbkeep2_EntriesKeepBounds_l2 (r4 : GBounds × Int) (x1 : List GEntry) (j5 : Option Bool) : List GEntry → Nat → Option Bool
  | [], _ => j5
  | y2 :: ys2, i2 => Join (fun (x4 : Int) (x5 : Int) =>
  if ((decide (r4.1.Races < x4)) || (decide (r4.1.Club < x5))) then
  some false
  else
  tumbkeep2_EntriesKeepBounds_l2 r4 x1 j5 ys2 (i2 + 1)) (fun j6 =>
  tumbkeep2_EntriesKeepBounds_l3 y2 j6 x1 0 0 0)
def tumbkeep2_EntriesKeepBounds (p_l : List Int) : Option Bool :=
  Option.bind (Stream_MeetRaces p_l 0) (fun r1 =>
  Option.bind (Stream_RightSwimmers p_l r1.2) (fun r2 =>
  Option.bind (Stream_OneClub p_l r2.2) (fun r3 =>
  Option.bind (Stream_Bounds p_l r2.2) (fun r4 =>
  Option.bind (Stream_Range p_l r4.2 0 14) (fun r5 =>
  Option.bind (Stream_Entries p_l r5.2 r5.1) (fun r6 =>
  Join (fun (c1 : Bool) =>
  if (c1 || (decide (r4.1.Day < 0))) then
  Option.bind (tumbkeep2_ready) (fun r8 =>
  some r8)
  else
  Option.bind (swimmer_Refused r1.1 r2.1 r3 r4.1 r6.1) (fun r9 =>
  Join (fun (x1 : List GEntry) =>
  Option.bind (swimmer_Refused r1.1 r2.1 r3 r4.1 x1) (fun r10 =>
  if ((!decide ((tumbkeep2_errs [r9.2, r10.2]) = 0)) || (!decide ((r10.1.length : Int) = 0))) then
  some false
  else
  Join (Option.bind (tumbkeep2_ready) (fun r11 =>
  some r11)) (fun j5 =>
  tumbkeep2_EntriesKeepBounds_l2 r4 x1 j5 x1 0))) (fun j2 =>
  tumbkeep2_EntriesKeepBounds_l1 r9 j2 r6.1 0 ([] : List GEntry)))) (fun j1 =>
  if (!decide ((tumbref2_BoundsFault r4.1) = 0)) then j1 ((!decide ((tumbref2_BoundsFault r4.1) = 0)) || true) else Option.bind (tumbref2_EntriesFault r6.1) (fun r7 =>
  j1 ((!decide ((tumbref2_BoundsFault r4.1) = 0)) || (!decide (r7 = 0)))))))))))
/-- The loops' equations are made here, once. -/
theorem twin_eqs : True := by
  have h := @Stream_MeetRaces_l1.eq_def; clear h; have h := @Stream_MeetRaces_l1.eq_1; clear h; have h := @Stream_MeetRaces_l1.eq_2; clear h
  have h := @Stream_RightSwimmers_l1.eq_def; clear h; have h := @Stream_RightSwimmers_l1.eq_1; clear h; have h := @Stream_RightSwimmers_l1.eq_2; clear h
  have h := @Stream_OneClub_l1.eq_def; clear h; have h := @Stream_OneClub_l1.eq_1; clear h; have h := @Stream_OneClub_l1.eq_2; clear h
  have h := @slices_Index_Entry_l1.eq_def; clear h; have h := @slices_Index_Entry_l1.eq_1; clear h; have h := @slices_Index_Entry_l1.eq_2; clear h
  have h := @Stream_Entries_l1.eq_def; clear h; have h := @Stream_Entries_l1.eq_1; clear h; have h := @Stream_Entries_l1.eq_2; clear h
  have h := @tumbref2_only_l1.eq_def; clear h; have h := @tumbref2_only_l1.eq_1; clear h; have h := @tumbref2_only_l1.eq_2; clear h
  have h := @tumbref2_EntriesFault_l1.eq_def; clear h; have h := @tumbref2_EntriesFault_l1.eq_1; clear h; have h := @tumbref2_EntriesFault_l1.eq_2; clear h
  have h := @tumbref2_EntriesFault_l2.eq_def; clear h; have h := @tumbref2_EntriesFault_l2.eq_1; clear h; have h := @tumbref2_EntriesFault_l2.eq_2; clear h
  have h := @swimmer_DayOf_l1.eq_def; clear h; have h := @swimmer_DayOf_l1.eq_1; clear h; have h := @swimmer_DayOf_l1.eq_2; clear h
  have h := @swimmer_DayOf_l2.eq_def; clear h; have h := @swimmer_DayOf_l2.eq_1; clear h; have h := @swimmer_DayOf_l2.eq_2; clear h
  have h := @swimmer_DayOf_l3.eq_def; clear h; have h := @swimmer_DayOf_l3.eq_1; clear h; have h := @swimmer_DayOf_l3.eq_2; clear h
  have h := @session_CheckItems_l1.eq_def; clear h; have h := @session_CheckItems_l1.eq_1; clear h; have h := @session_CheckItems_l1.eq_2; clear h
  have h := @session_timetable_l2.eq_def; clear h; have h := @session_timetable_l2.eq_1; clear h; have h := @session_timetable_l2.eq_2; clear h
  have h := @session_timetable_l1.eq_def; clear h; have h := @session_timetable_l1.eq_1; clear h; have h := @session_timetable_l1.eq_2; clear h
  have h := @points_CheckBase_l1.eq_def; clear h; have h := @points_CheckBase_l1.eq_1; clear h; have h := @points_CheckBase_l1.eq_2; clear h
  have h := @points_baseOf_l1.eq_def; clear h; have h := @points_baseOf_l1.eq_1; clear h; have h := @points_baseOf_l1.eq_2; clear h
  have h := @bits_Div64_l1.eq_def; clear h; have h := @bits_Div64_l1.eq_1; clear h; have h := @bits_Div64_l1.eq_2; clear h
  have h := @bits_Div64_l2.eq_def; clear h; have h := @bits_Div64_l2.eq_1; clear h; have h := @bits_Div64_l2.eq_2; clear h
  have h := @record_CheckKinds_l2.eq_def; clear h; have h := @record_CheckKinds_l2.eq_1; clear h; have h := @record_CheckKinds_l2.eq_2; clear h
  have h := @record_CheckKinds_l1.eq_def; clear h; have h := @record_CheckKinds_l1.eq_1; clear h; have h := @record_CheckKinds_l1.eq_2; clear h
  have h := @slices_Index_string_l1.eq_def; clear h; have h := @slices_Index_string_l1.eq_1; clear h; have h := @slices_Index_string_l1.eq_2; clear h
  have h := @record_For_l1.eq_def; clear h; have h := @record_For_l1.eq_1; clear h; have h := @record_For_l1.eq_2; clear h
  have h := @tumbkeep2_errs_l1.eq_def; clear h; have h := @tumbkeep2_errs_l1.eq_1; clear h; have h := @tumbkeep2_errs_l1.eq_2; clear h
  have h := @swimmer_checkRaces_l1.eq_def; clear h; have h := @swimmer_checkRaces_l1.eq_1; clear h; have h := @swimmer_checkRaces_l1.eq_2; clear h
  have h := @swimmer_CheckSwimmers_l1.eq_def; clear h; have h := @swimmer_CheckSwimmers_l1.eq_1; clear h; have h := @swimmer_CheckSwimmers_l1.eq_2; clear h
  have h := @cmp_Or_int_l1.eq_def; clear h; have h := @cmp_Or_int_l1.eq_1; clear h; have h := @cmp_Or_int_l1.eq_2; clear h
  have h := @swimmer_CheckMoves_l1.eq_def; clear h; have h := @swimmer_CheckMoves_l1.eq_1; clear h; have h := @swimmer_CheckMoves_l1.eq_2; clear h
  have h := @swimmer_CheckEntries_l1.eq_def; clear h; have h := @swimmer_CheckEntries_l1.eq_1; clear h; have h := @swimmer_CheckEntries_l1.eq_2; clear h
  have h := @slices_IndexFunc_Race_swimmer_raceOf_c1_l1.eq_def; clear h; have h := @slices_IndexFunc_Race_swimmer_raceOf_c1_l1.eq_1; clear h; have h := @slices_IndexFunc_Race_swimmer_raceOf_c1_l1.eq_2; clear h
  have h := @slices_IndexFunc_Swimmer_swimmer_swimmerOf_c1_l1.eq_def; clear h; have h := @slices_IndexFunc_Swimmer_swimmer_swimmerOf_c1_l1.eq_1; clear h; have h := @slices_IndexFunc_Swimmer_swimmer_swimmerOf_c1_l1.eq_2; clear h
  have h := @swimmer_clubAt_l1.eq_def; clear h; have h := @swimmer_clubAt_l1.eq_1; clear h; have h := @swimmer_clubAt_l1.eq_2; clear h
  have h := @swimmer_dateOf_l1.eq_def; clear h; have h := @swimmer_dateOf_l1.eq_1; clear h; have h := @swimmer_dateOf_l1.eq_2; clear h
  have h := @swimmer_dateOf_l2.eq_def; clear h; have h := @swimmer_dateOf_l2.eq_1; clear h; have h := @swimmer_dateOf_l2.eq_2; clear h
  have h := @swimmer_dateOf_l3.eq_def; clear h; have h := @swimmer_dateOf_l3.eq_1; clear h; have h := @swimmer_dateOf_l3.eq_2; clear h
  have h := @swimmer_Refused_l1.eq_def; clear h; have h := @swimmer_Refused_l1.eq_1; clear h; have h := @swimmer_Refused_l1.eq_2; clear h
  have h := @slices_Index_int_l1.eq_def; clear h; have h := @slices_Index_int_l1.eq_1; clear h; have h := @slices_Index_int_l1.eq_2; clear h
  have h := @tumbkeep2_EntriesKeepBounds_l1.eq_def; clear h; have h := @tumbkeep2_EntriesKeepBounds_l1.eq_1; clear h; have h := @tumbkeep2_EntriesKeepBounds_l1.eq_2; clear h
  have h := @tumbkeep2_EntriesKeepBounds_l3.eq_def; clear h; have h := @tumbkeep2_EntriesKeepBounds_l3.eq_1; clear h; have h := @tumbkeep2_EntriesKeepBounds_l3.eq_2; clear h
  have h := @tumbkeep2_EntriesKeepBounds_l2.eq_def; clear h; have h := @tumbkeep2_EntriesKeepBounds_l2.eq_1; clear h; have h := @tumbkeep2_EntriesKeepBounds_l2.eq_2; clear h
  trivial
end Go.Proofs.YtdcmeoefpigcdaaGreatDoor
