/- The Go functions as plain Lean functions, by program. -/
import Derived.Test.YteppmbaanjlmmaaGreatDoorBase
namespace Go.Proofs.YteppmbaanjlmmaaGreatDoor
open Go
noncomputable section
structure Gtumbmake_Stream where
  L : List Int
  at_ : Int
  deriving DecidableEq, Inhabited
structure GTable where
  Points : List Int
  Relay : Int
  Most : Int
  deriving DecidableEq, Inhabited
structure GScored where
  Race : ByteArray
  Who : ByteArray
  Club : ByteArray
  Rank : Int
  Relay : Bool
  deriving DecidableEq, Inhabited
structure Gpoints_entry where
  race_ : ByteArray
  who_ : ByteArray
  deriving DecidableEq, Inhabited
structure GFraction where
  Num : Int
  Den : Int
  deriving DecidableEq, Inhabited
structure GGiven where
  Key : ByteArray
  Points : GFraction
  deriving DecidableEq, Inhabited
structure Gpoints_row where
  x_ : GScored
  points_ : GFraction
  deriving DecidableEq, Inhabited
structure GDate where
  Year : Int
  Month : Int
  Day : Int
  deriving DecidableEq, Inhabited
structure GItem where
  Key : ByteArray
  Heats : Int
  Long : Int
  Gap : Int
  Break : Int
  deriving DecidableEq, Inhabited
structure GWindow where
  From : Int
  To : Int
  deriving DecidableEq, Inhabited
structure GSlot where
  Item : ByteArray
  Heat : Int
  Time : GWindow
  deriving DecidableEq, Inhabited
structure GBase where
  Race : ByteArray
  Time : Int
  deriving DecidableEq, Inhabited
structure GKind where
  Key : ByteArray
  Race : ByteArray
  Clubs : List ByteArray
  Young : Int
  Old : Int
  deriving DecidableEq, Inhabited
structure GStep where
  At : Int
  Kind : Int
  Id : ByteArray
  Who : ByteArray
  Club : ByteArray
  Race : ByteArray
  Age : Int
  Time : Int
  deriving DecidableEq, Inhabited
def k_empty : ByteArray := ⟨#[]⟩
def k_ra : ByteArray := ⟨#[114, 97]⟩
def k_rb : ByteArray := ⟨#[114, 98]⟩
def k_rc : ByteArray := ⟨#[114, 99]⟩
def k_ann : ByteArray := ⟨#[97, 110, 110]⟩
def k_bea : ByteArray := ⟨#[98, 101, 97]⟩
def k_cid : ByteArray := ⟨#[99, 105, 100]⟩
def k_dan : ByteArray := ⟨#[100, 97, 110]⟩
def k_eve : ByteArray := ⟨#[101, 118, 101]⟩
def k_blue : ByteArray := ⟨#[98, 108, 117, 101]⟩
def k_red : ByteArray := ⟨#[114, 101, 100]⟩
def k_grey : ByteArray := ⟨#[103, 114, 101, 121]⟩
def k__00_01_02_02_h633d86 : ByteArray := ⟨#[0, 1, 2, 2, 3, 3, 3, 3, 4, 4, 4, 4, 4, 4, 4, 4, 5, 5, 5, 5, 5, 5, 5, 5, 5, 5, 5, 5, 5, 5, 5, 5, 6, 6, 6, 6, 6, 6, 6, 6, 6, 6, 6, 6, 6, 6, 6, 6, 6, 6, 6, 6, 6, 6, 6, 6, 6, 6, 6, 6, 6, 6, 6, 6, 7, 7, 7, 7, 7, 7, 7, 7, 7, 7, 7, 7, 7, 7, 7, 7, 7, 7, 7, 7, 7, 7, 7, 7, 7, 7, 7, 7, 7, 7, 7, 7, 7, 7, 7, 7, 7, 7, 7, 7, 7, 7, 7, 7, 7, 7, 7, 7, 7, 7, 7, 7, 7, 7, 7, 7, 7, 7, 7, 7, 7, 7, 7, 7, 8, 8, 8, 8, 8, 8, 8, 8, 8, 8, 8, 8, 8, 8, 8, 8, 8, 8, 8, 8, 8, 8, 8, 8, 8, 8, 8, 8, 8, 8, 8, 8, 8, 8, 8, 8, 8, 8, 8, 8, 8, 8, 8, 8, 8, 8, 8, 8, 8, 8, 8, 8, 8, 8, 8, 8, 8, 8, 8, 8, 8, 8, 8, 8, 8, 8, 8, 8, 8, 8, 8, 8, 8, 8, 8, 8, 8, 8, 8, 8, 8, 8, 8, 8, 8, 8, 8, 8, 8, 8, 8, 8, 8, 8, 8, 8, 8, 8, 8, 8, 8, 8, 8, 8, 8, 8, 8, 8, 8, 8, 8, 8, 8, 8, 8, 8, 8, 8, 8, 8, 8, 8, 8, 8, 8, 8, 8, 8]⟩
def k_abcdefghijkl_h0e2e2c : ByteArray := ⟨#[97, 98, 99, 100, 101, 102, 103, 104, 105, 106, 107, 108, 109, 110, 111, 112, 113, 114, 115, 116, 117, 118, 119, 120, 121, 122, 48, 49, 50, 51, 52, 53, 54, 55, 56, 57, 45, 95]⟩
def k_a : ByteArray := ⟨#[97]⟩
def k_r : ByteArray := ⟨#[114]⟩
def k_k : ByteArray := ⟨#[107]⟩
def k_i : ByteArray := ⟨#[105]⟩
def tumbmake_Below (p_x : Int) (p_n : Int) : Option Int :=
  if decide (p_n < 1) then
  some 0
  else
  Chk (!decide (p_n = 0)) (
  Join (fun (x1 : Int) =>
  some x1) (fun j1 =>
  if decide ((Int.tmod p_x p_n) < 0) then
  j1 (W ((Int.tmod p_x p_n) + p_n))
  else
  j1 (Int.tmod p_x p_n)))
def Stream_Next (p_s_L : List Int) (p_s_at : Int) (p_n : Int) : Option (Int × Int) :=
  if decide ((p_s_L.length : Int) = 0) then
  Option.bind (tumbmake_Below (W ((W (p_s_at + 1)) * 7919)) p_n) (fun r1 =>
  some (r1, W (p_s_at + 1)))
  else
  Chk (!decide ((p_s_L.length : Int) = 0)) (
  Chk (!decide ((p_s_L.length : Int) = 0)) (
  Chk (inB (Int.tmod (W ((W (p_s_at + 1)) - 1)) (p_s_L.length : Int)) p_s_L.length) (
  Option.bind (tumbmake_Below (nth p_s_L (Int.tmod (W ((W (p_s_at + 1)) - 1)) (p_s_L.length : Int))) 1073741824) (fun r2 =>
  Option.bind (tumbmake_Below (W (r2 + (W ((W (Int.tdiv (W ((W (p_s_at + 1)) - 1)) (p_s_L.length : Int))) * (W (7919 + (Int.tmod (W ((W (p_s_at + 1)) - 1)) (p_s_L.length : Int)))))))) p_n) (fun r3 =>
  some (r3, W (p_s_at + 1)))))))
def Stream_Pick (p_s_L : List Int) (p_s_at : Int) (p_l : List Int) : Option (Int × Int) :=
  Option.bind (Stream_Next p_s_L p_s_at (p_l.length : Int)) (fun r1 =>
  Chk (inB r1.1 p_l.length) (
  some ((nth p_l r1.1), r1.2)))
def Stream_Range (p_s_L : List Int) (p_s_at : Int) (p_low : Int) (p_high : Int) : Option (Int × Int) :=
  if decide (p_high < p_low) then
  some (p_low, p_s_at)
  else
  Option.bind (Stream_Next p_s_L p_s_at (W ((W (p_high - p_low)) + 1))) (fun r1 =>
  some (W (p_low + r1.1), r1.2))
def Stream_RightTable_l1 (r4 : Int × Int) (p_s_L : List Int) (j1 : (List Int) → Int → Option (GTable × Int)) : Nat → (List Int) → Int → Int → Int → Option (GTable × Int)
  | 0, _, _, _, _ => none
  | m1 + 1, x1, x2, x3, x4 => if decide (x4 < r4.1) then
  Chk (room x1.length) (
  Option.bind (Stream_Pick p_s_L x2 [0, 1, 2, 3]) (fun r5 =>
  Stream_RightTable_l1 r4 p_s_L j1 m1 (x1 ++ [x3]) r5.2 (imax 0 (W (x3 - r5.1))) (W (x4 + 1))))
  else
  j1 x1 x2
def Stream_RightTable (p_s_L : List Int) (p_s_at : Int) : Option (GTable × Int) :=
  Option.bind (Stream_Pick p_s_L p_s_at [1, 2]) (fun r1 =>
  Option.bind (Stream_Pick p_s_L r1.2 [0, 0, 1, 2]) (fun r2 =>
  Option.bind (Stream_Pick p_s_L r2.2 [10, 9, 7, 5]) (fun r3 =>
  Option.bind (Stream_Range p_s_L r3.2 0 5) (fun r4 =>
  Join (fun (x1 : List Int) (x2 : Int) =>
  some ((GTable.mk x1 r1.1 r2.1), x2)) (fun j1 =>
  Stream_RightTable_l1 r4 p_s_L j1 ((r4.1 - 0).toNat + 2) ([] : List Int) r4.2 r3.1 0)))))
def Stream_Flip (p_s_L : List Int) (p_s_at : Int) (p_n : Int) : Option (Bool × Int) :=
  Option.bind (Stream_Next p_s_L p_s_at p_n) (fun r1 =>
  some (decide (r1.1 = 0), r1.2))
def Stream_Some (p_s_L : List Int) (p_s_at : Int) (p_l : List ByteArray) : Option (ByteArray × Int) :=
  Option.bind (Stream_Next p_s_L p_s_at (p_l.length : Int)) (fun r1 =>
  Chk (inB r1.1 p_l.length) (
  some ((nth p_l r1.1), r1.2)))
def bits_Len32 (p_x : Int) : Option Int :=
  Join (fun (x1 : Int) (x2 : Int) =>
  Join (fun (x3 : Int) (x4 : Int) =>
  Chk (inB (IntKind.wrap .u8 x3) k__00_01_02_02_h633d86.size) (
  some (W (x4 + (W (sbyte k__00_01_02_02_h633d86 (IntKind.wrap .u8 x3))))))) (fun j2 =>
  if decide (256 ≤ x1) then
  j2 (bitShr .u32 x1 8) (W (x2 + 8))
  else
  j2 x1 x2)) (fun j1 =>
  if decide (65536 ≤ p_x) then
  j1 (bitShr .u32 p_x 16) 16
  else
  j1 p_x 0)
def bits_Len64 (p_x : Int) : Option Int :=
  Join (fun (x1 : Int) (x2 : Int) =>
  Join (fun (x3 : Int) (x4 : Int) =>
  Join (fun (x5 : Int) (x6 : Int) =>
  Chk (inB (IntKind.wrap .u8 x5) k__00_01_02_02_h633d86.size) (
  some (W (x6 + (W (sbyte k__00_01_02_02_h633d86 (IntKind.wrap .u8 x5))))))) (fun j3 =>
  if decide (256 ≤ x3) then
  j3 (bitShr .u64 x3 8) (W (x4 + 8))
  else
  j3 x3 x4)) (fun j2 =>
  if decide (65536 ≤ x1) then
  j2 (bitShr .u64 x1 16) (W (x2 + 16))
  else
  j2 x1 x2)) (fun j1 =>
  if decide (4294967296 ≤ p_x) then
  j1 (bitShr .u64 p_x 32) 32
  else
  j1 p_x 0)
def bits_Len (p_x : Int) : Option Int :=
  if false then
  Option.bind (bits_Len32 (IntKind.wrap .u32 p_x)) (fun r1 =>
  some r1)
  else
  Option.bind (bits_Len64 p_x) (fun r2 =>
  some r2)
def strings_Compare (s t : ByteArray) : Int := Lib.compareBytes s.data.toList t.data.toList
def tumbref2_ScoredOrder_c1 (p_s : GScored) : Int :=
  if decide (p_s.Rank = 0) then
  301
  else
  p_s.Rank
def tumbref2_sign (p_n : Int) : Int :=
  if decide (p_n < 0) then
  (-1)
  else
  if decide (0 < p_n) then
  1
  else
  0
def tumbref2_ScoredOrder (p_a : GScored) (p_b : GScored) : Int :=
  if !decide (p_a.Race = p_b.Race) then
  (strings_Compare p_a.Race p_b.Race)
  else
  if !decide ((tumbref2_ScoredOrder_c1 p_a) = (tumbref2_ScoredOrder_c1 p_b)) then
  (tumbref2_sign (W ((tumbref2_ScoredOrder_c1 p_a) - (tumbref2_ScoredOrder_c1 p_b))))
  else
  (strings_Compare p_a.Who p_b.Who)
def slices_insertionSortCmpFunc_Scored_tumbref2_ScoredOrder_l2 (p_a : Int) (j2 : (List GScored) → Option (List GScored)) : Nat → (List GScored) → Int → Option (List GScored)
  | 0, _, _ => none
  | m2 + 1, x3, x4 => Join (fun (x5 : Bool) =>
  if x5 then
  Chk (inB (W (x4 - 1)) x3.length) (
  Chk (inB x4 x3.length) (
  Chk (inB x4 x3.length) (
  Chk (inB (W (x4 - 1)) (x3.set x4.toNat (nth x3 (W (x4 - 1)))).length) (
  slices_insertionSortCmpFunc_Scored_tumbref2_ScoredOrder_l2 p_a j2 m2 ((x3.set x4.toNat (nth x3 (W (x4 - 1)))).set ((W (x4 - 1)).toNat) (nth x3 x4)) (W (x4 - 1))))))
  else
  j2 x3) (fun j3 =>
  if decide (p_a < x4) then
  Chk (inB x4 x3.length) (
  Chk (inB (W (x4 - 1)) x3.length) (
  j3 (decide ((tumbref2_ScoredOrder (nth x3 x4) (nth x3 (W (x4 - 1)))) < 0))))
  else
  j3 false)
def slices_insertionSortCmpFunc_Scored_tumbref2_ScoredOrder_l1 (p_b : Int) (p_a : Int) (j1 : (List GScored) → Option (List GScored)) : Nat → (List GScored) → Int → Option (List GScored)
  | 0, _, _ => none
  | m1 + 1, x1, x2 => if decide (x2 < p_b) then
  Join (fun (x3 : List GScored) =>
  slices_insertionSortCmpFunc_Scored_tumbref2_ScoredOrder_l1 p_b p_a j1 m1 x3 (W (x2 + 1))) (fun j2 =>
  slices_insertionSortCmpFunc_Scored_tumbref2_ScoredOrder_l2 p_a j2 ((x2 - p_a).toNat + 2) x1 x2)
  else
  j1 x1
def slices_insertionSortCmpFunc_Scored_tumbref2_ScoredOrder (p_data : List GScored) (p_a : Int) (p_b : Int) : Option (List GScored) :=
  Join (fun (x1 : List GScored) =>
  some x1) (fun j1 =>
  slices_insertionSortCmpFunc_Scored_tumbref2_ScoredOrder_l1 p_b p_a j1 ((p_b - (W (p_a + 1))).toNat + 2) p_data (W (p_a + 1)))
def slices_pdqsortCmpFunc_Scored_tumbref2_ScoredOrder_l1 (p_data : List GScored) : Nat → Int → Int → Int → Bool → Option (List GScored)
  | 0, _, _, _, _ => none
  | _ + 1, x1, x2, x3, x4 => if decide ((W (x2 - x1)) ≤ 12) then
  Option.bind (slices_insertionSortCmpFunc_Scored_tumbref2_ScoredOrder p_data x1 x2) (fun r1 =>
  some r1)
  else
  if decide (x3 = 0) then
  none
  else
  if !x4 then
  none
  else
  none
def slices_pdqsortCmpFunc_Scored_tumbref2_ScoredOrder (p_data : List GScored) (p_a : Int) (p_b : Int) (p_limit : Int) : Option (List GScored) :=
  slices_pdqsortCmpFunc_Scored_tumbref2_ScoredOrder_l1 p_data 4611686018427387904 p_a p_b p_limit true
def slices_SortFunc_Scored_tumbref2_ScoredOrder (p_x : List GScored) : Option (List GScored) :=
  Option.bind (bits_Len (IntKind.wrap .u64 (p_x.length : Int))) (fun r1 =>
  Option.bind (slices_pdqsortCmpFunc_Scored_tumbref2_ScoredOrder p_x 0 (p_x.length : Int) r1) (fun r2 =>
  some r2))
def Stream_RightScored_l2 (p_s_L : List Int) (y1 : ByteArray) (r1 : Bool × Int) (j2 : (List GScored) → Int → Option ((List GScored) × Int)) : List ByteArray → Nat → (List GScored) → Int → Option ((List GScored) × Int)
  | [], _, x3, x4 => j2 x3 x4
  | y2 :: ys2, i2, x3, x4 => Join (fun (x5 : List GScored) (x6 : Int) =>
  Stream_RightScored_l2 p_s_L y1 r1 j2 ys2 (i2 + 1) x5 x6) (fun j3 =>
  Option.bind (Stream_Flip p_s_L x4 4) (fun r2 =>
  Join (fun (x7 : List GScored) (x8 : Int) =>
  j3 x7 x8) (fun j4 =>
  if !r2.1 then
  Option.bind (Stream_Some p_s_L r2.2 [k_blue, k_blue, k_red, k_grey, k_empty]) (fun r3 =>
  Option.bind (Stream_Pick p_s_L r3.2 [0, 1, 2, 2, 3, 4]) (fun r4 =>
  Chk (room x3.length) (
  j4 (x3 ++ [(GScored.mk y1 y2 r3.1 r4.1 r1.1)]) r4.2)))
  else
  j4 x3 r2.2)))
def Stream_RightScored_l4 (x9 : List GScored) (i3 : Nat) (j7 : Int → Option ((List GScored) × Int)) : List GScored → Nat → Int → Option ((List GScored) × Int)
  | [], _, x11 => j7 x11
  | y4 :: ys4, i4, x11 => Join (fun (x12 : Int) =>
  Stream_RightScored_l4 x9 i3 j7 ys4 (i4 + 1) x12) (fun j8 =>
  Join (fun (x13 : Int) =>
  j8 x13) (fun j9 =>
  if (((decide (0 < y4.Rank)) && (decide ((Int.tmod y4.Rank 10) < (Int.tmod ((nth x9 (i3 : Int)).Rank) 10)))) && (decide (0 < ((nth x9 (i3 : Int)).Rank)))) then
  j9 (W (x11 + 1))
  else
  j9 x11))
def Stream_RightScored_l3 (j5 : (List GScored) → Option ((List GScored) × Int)) : List GScored → Nat → (List GScored) → Option ((List GScored) × Int)
  | [], _, x9 => j5 x9
  | _ :: ys3, i3, x9 => Join (fun (x10 : List GScored) =>
  Stream_RightScored_l3 j5 ys3 (i3 + 1) x10) (fun j6 =>
  Chk (inB (i3 : Int) x9.length) (
  Join (fun (x11 : Int) =>
  Join (fun (x14 : List GScored) =>
  j6 x14) (fun j10 =>
  if decide (0 < ((nth x9 (i3 : Int)).Rank)) then
  Chk (inB (i3 : Int) x9.length) (
  j10 (x9.set ((i3 : Int).toNat) (GScored.mk ((nth x9 (i3 : Int)).Race) ((nth x9 (i3 : Int)).Who) ((nth x9 (i3 : Int)).Club) (W (((nth x9 (i3 : Int)).Rank) + (W (10 * x11)))) ((nth x9 (i3 : Int)).Relay))))
  else
  j10 x9)) (fun j7 =>
  Stream_RightScored_l4 x9 i3 j7 x9 0 1)))
def Stream_RightScored_l5 (j11 : (List GScored) → Option ((List GScored) × Int)) : List GScored → Nat → (List GScored) → Option ((List GScored) × Int)
  | [], _, x15 => j11 x15
  | _ :: ys5, i5, x15 => Chk (inB (i5 : Int) x15.length) (
  Chk (inB (i5 : Int) x15.length) (
  Stream_RightScored_l5 j11 ys5 (i5 + 1) (x15.set ((i5 : Int).toNat) (GScored.mk ((nth x15 (i5 : Int)).Race) ((nth x15 (i5 : Int)).Who) ((nth x15 (i5 : Int)).Club) (W (Int.tdiv ((nth x15 (i5 : Int)).Rank) 10)) ((nth x15 (i5 : Int)).Relay)))))
def Stream_RightScored_l1 (p_s_L : List Int) (j1 : (List GScored) → Int → Option ((List GScored) × Int)) : List ByteArray → Nat → (List GScored) → Int → Option ((List GScored) × Int)
  | [], _, x1, x2 => j1 x1 x2
  | y1 :: ys1, i1, x1, x2 => Option.bind (Stream_Flip p_s_L x2 3) (fun r1 =>
  Join (fun (x3 : List GScored) (x4 : Int) =>
  Join (fun (x9 : List GScored) =>
  Join (fun (x15 : List GScored) =>
  Option.bind (slices_SortFunc_Scored_tumbref2_ScoredOrder x15) (fun r5 =>
  Chk (decide (x1.length + r5.length < 1073741824)) (
  Stream_RightScored_l1 p_s_L j1 ys1 (i1 + 1) (x1 ++ r5) x4))) (fun j11 =>
  Stream_RightScored_l5 j11 x9 0 x9)) (fun j5 =>
  Stream_RightScored_l3 j5 x3 0 x3)) (fun j2 =>
  Stream_RightScored_l2 p_s_L y1 r1 j2 ([k_ann, k_bea, k_cid, k_dan, k_eve] : List ByteArray) 0 ([] : List GScored) r1.2))
def Stream_RightScored (p_s_L : List Int) (p_s_at : Int) : Option ((List GScored) × Int) :=
  Join (fun (x1 : List GScored) (x2 : Int) =>
  some (x1, x2)) (fun j1 =>
  Stream_RightScored_l1 p_s_L j1 ([k_ra, k_rb, k_rc] : List ByteArray) 0 ([] : List GScored) p_s_at)
def words_Within (p_n : Int) (p_low : Int) (p_high : Int) : Bool :=
  ((decide (p_low ≤ p_n)) && (decide (p_n ≤ p_high)))
def points_CheckTable_l1 (p_t : GTable) (j1 : Option Int) : List Int → Nat → Option Int
  | [], _ => j1
  | y1 :: ys1, i1 => if !(words_Within y1 0 10000) then
  some 1
  else
  Join (fun (c1 : Bool) =>
  if c1 then
  some 7
  else
  points_CheckTable_l1 p_t j1 ys1 (i1 + 1)) (fun j2 =>
  if (decide (0 < (i1 : Int))) then Chk (inB (W ((i1 : Int) - 1)) p_t.Points.length) (
  j2 ((decide (0 < (i1 : Int))) && (decide ((nth p_t.Points (W ((i1 : Int) - 1))) < y1)))) else j2 ((decide (0 < (i1 : Int))) && true))
def points_CheckTable (p_t : GTable) : Option Int :=
  if decide (40 < (p_t.Points.length : Int)) then
  some 2
  else
  Join (if ((!(words_Within p_t.Relay 1 10)) || (!(words_Within p_t.Most 0 10))) then
  some 1
  else
  some 0) (fun j1 =>
  points_CheckTable_l1 p_t j1 p_t.Points 0)
def strings_Trim (s c : ByteArray) : Option ByteArray :=
  Chk (decide (s.size ≤ 9223372036854775807)) (Chk (decide (c.size < 4294967281)) (Chk (c.data.toList.all fun b => decide (b.toNat < 128)) (some ⟨(Lib.trimS s.data.toList c.data.toList).toArray⟩)))
def words_IsKey (p_s : ByteArray) : Option Bool :=
  Join (fun (c1 : Bool) =>
  Join (fun (c2 : Bool) =>
  Join (fun (c3 : Bool) =>
  some c3) (fun j3 =>
  if c2 then Option.bind (strings_Trim p_s k_abcdefghijkl_h0e2e2c) (fun r1 =>
  j3 (c2 && (decide (r1 = k_empty)))) else j3 (c2 && true))) (fun j2 =>
  if c1 then Chk (inB 0 p_s.size) (
  j2 (c1 && (decide ((sbyte p_s 0) ≤ 122)))) else j2 (c1 && true))) (fun j1 =>
  if ((decide (1 ≤ (p_s.size : Int))) && (decide ((p_s.size : Int) ≤ 40))) then Chk (inB 0 p_s.size) (
  j1 (((decide (1 ≤ (p_s.size : Int))) && (decide ((p_s.size : Int) ≤ 40))) && (decide (97 ≤ (sbyte p_s 0))))) else j1 (((decide (1 ≤ (p_s.size : Int))) && (decide ((p_s.size : Int) ≤ 40))) && true))
def points_compareRanks (p_a : Int) (p_b : Int) : Int :=
  Join (fun (x1 : Int) =>
  Join (fun (x2 : Int) =>
  W (x1 - x2)) (fun j2 =>
  if decide (p_b = 0) then
  j2 301
  else
  j2 p_b)) (fun j1 =>
  if decide (p_a = 0) then
  j1 301
  else
  j1 p_a)
def cmp_Or_int_l1 (j1 : Int) : List Int → Nat → Int
  | [], _ => j1
  | y1 :: ys1, i1 => if !decide (y1 = 0) then
  y1
  else
  cmp_Or_int_l1 j1 ys1 (i1 + 1)
def cmp_Or_int (p_vals : List Int) : Int :=
  Join (0) (fun j1 =>
  cmp_Or_int_l1 j1 p_vals 0)
def points_compare (p_a : GScored) (p_b : GScored) : Int :=
  (cmp_Or_int [(strings_Compare p_a.Race p_b.Race), (points_compareRanks p_a.Rank p_b.Rank), (strings_Compare p_a.Who p_b.Who)])
def points_races_l2 (p_l : List GScored) (x2 : Int) (j2 : Int → Option (List (List GScored))) : Nat → Int → Option (List (List GScored))
  | 0, _ => none
  | m2 + 1, x3 => Join (fun (c1 : Bool) =>
  if c1 then
  points_races_l2 p_l x2 j2 m2 (W (x3 + 1))
  else
  j2 x3) (fun j3 =>
  if (decide (x3 < (p_l.length : Int))) then Chk (inB x3 p_l.length) (
  Chk (inB x2 p_l.length) (
  j3 ((decide (x3 < (p_l.length : Int))) && (decide (((nth p_l x3).Race) = ((nth p_l x2).Race)))))) else j3 ((decide (x3 < (p_l.length : Int))) && true))
def points_races_l1 (p_l : List GScored) (j1 : (List (List GScored)) → Option (List (List GScored))) : Nat → (List (List GScored)) → Int → Option (List (List GScored))
  | 0, _, _ => none
  | m1 + 1, x1, x2 => if decide (x2 < (p_l.length : Int)) then
  Join (fun (x3 : Int) =>
  Chk (cutB x2 x3 p_l.length) (
  Chk (room x1.length) (
  points_races_l1 p_l j1 m1 (x1 ++ [cut p_l x2 x3]) x3))) (fun j2 =>
  points_races_l2 p_l x2 j2 (((p_l.length : Int) - (W (x2 + 1))).toNat + 2) (W (x2 + 1)))
  else
  j1 x1
def points_races (p_l : List GScored) : Option (List (List GScored)) :=
  Join (fun (x1 : List (List GScored)) =>
  some x1) (fun j1 =>
  points_races_l1 p_l j1 (((p_l.length : Int) - 0).toNat + 2) ([] : List (List GScored)) 0)
def points_checkAll_c1 (p_x : GScored) (p_a1 : List GScored) : Option Bool :=
  Chk (inB 0 p_a1.length) (
  some (!decide (p_x.Relay = ((nth p_a1 0).Relay))))
def slices_IndexFunc_Scored_points_checkAll_c1_l1 (p_f_0 : List GScored) (j1 : Option Int) : List GScored → Nat → Option Int
  | [], _ => j1
  | y1 :: ys1, i1 => Option.bind (points_checkAll_c1 y1 p_f_0) (fun r1 =>
  if r1 then
  some (i1 : Int)
  else
  slices_IndexFunc_Scored_points_checkAll_c1_l1 p_f_0 j1 ys1 (i1 + 1))
def slices_IndexFunc_Scored_points_checkAll_c1 (p_s : List GScored) (p_f_0 : List GScored) : Option Int :=
  Join (some (-1)) (fun j1 =>
  slices_IndexFunc_Scored_points_checkAll_c1_l1 p_f_0 j1 p_s 0)
def slices_ContainsFunc_Scored_points_checkAll_c1 (p_s : List GScored) (p_f_0 : List GScored) : Option Bool :=
  Option.bind (slices_IndexFunc_Scored_points_checkAll_c1 p_s p_f_0) (fun r1 =>
  some (decide (0 ≤ r1)))
def points_checkAll_l1 (j1 : (List (Gpoints_entry × Bool)) → Option Int) : List GScored → Nat → (List (Gpoints_entry × Bool)) → Option Int
  | [], _, x1 => j1 x1
  | y1 :: ys1, i1, x1 => if mgetD x1 (Gpoints_entry.mk y1.Race y1.Who) false then
  some 6
  else
  points_checkAll_l1 j1 ys1 (i1 + 1) (mput x1 (Gpoints_entry.mk y1.Race y1.Who) true)
def points_checkAll_l2 (j2 : Option Int) : List (List GScored) → Nat → Option Int
  | [], _ => j2
  | y2 :: ys2, i2 => Option.bind (slices_ContainsFunc_Scored_points_checkAll_c1 y2 y2) (fun r3 =>
  if r3 then
  some 3
  else
  points_checkAll_l2 j2 ys2 (i2 + 1))
def points_checkAll_l4 (y3 : (List GScored)) (j4 : Option Int) : List GScored → Nat → Option Int
  | [], _ => j4
  | y4 :: ys4, i4 => Join (fun (c1 : Bool) =>
  if c1 then
  some 16
  else
  points_checkAll_l4 y3 j4 ys4 (i4 + 1)) (fun j5 =>
  if ((decide (0 < y4.Rank)) && (!decide (y4.Rank = (W ((i4 : Int) + 1))))) then Join (fun (c2 : Bool) =>
  j5 (((decide (0 < y4.Rank)) && (!decide (y4.Rank = (W ((i4 : Int) + 1))))) && c2)) (fun j6 =>
  if (decide ((i4 : Int) = 0)) then j6 ((decide ((i4 : Int) = 0)) || true) else Chk (inB (W ((i4 : Int) - 1)) y3.length) (
  j6 ((decide ((i4 : Int) = 0)) || (!decide (y4.Rank = ((nth y3 (W ((i4 : Int) - 1))).Rank)))))) else j5 (((decide (0 < y4.Rank)) && (!decide (y4.Rank = (W ((i4 : Int) + 1))))) && true))
def points_checkAll_l3 (j3 : Option Int) : List (List GScored) → Nat → Option Int
  | [], _ => j3
  | y3 :: ys3, i3 => Join (points_checkAll_l3 j3 ys3 (i3 + 1)) (fun j4 =>
  points_checkAll_l4 y3 j4 y3 0)
def points_checkAll_l6 (y5 : (List GScored)) (j8 : Option Int) : Nat → Int → Option Int
  | 0, _ => none
  | m1 + 1, x2 => if decide (x2 < (y5.length : Int)) then
  Chk (inB x2 y5.length) (
  Join (fun (c3 : Bool) =>
  if c3 then
  some 12
  else
  points_checkAll_l6 y5 j8 m1 (W (x2 + 1))) (fun j9 =>
  if (decide (0 < ((nth y5 x2).Rank))) then Chk (inB x2 y5.length) (
  Chk (inB (W (x2 - 10)) y5.length) (
  j9 ((decide (0 < ((nth y5 x2).Rank))) && (decide (((nth y5 x2).Rank) = ((nth y5 (W (x2 - 10))).Rank)))))) else j9 ((decide (0 < ((nth y5 x2).Rank))) && true)))
  else
  j8
def points_checkAll_l5 (j7 : Option Int) : List (List GScored) → Nat → Option Int
  | [], _ => j7
  | y5 :: ys5, i5 => Join (points_checkAll_l5 j7 ys5 (i5 + 1)) (fun j8 =>
  points_checkAll_l6 y5 j8 (((y5.length : Int) - 10).toNat + 2) 10)
def points_checkAll (p_l : List GScored) : Option Int :=
  Join (fun (x1 : List (Gpoints_entry × Bool)) =>
  Option.bind (points_races p_l) (fun r1 =>
  Join (Join (Join (some 0) (fun j7 =>
  points_checkAll_l5 j7 r1 0)) (fun j3 =>
  points_checkAll_l3 j3 r1 0)) (fun j2 =>
  points_checkAll_l2 j2 r1 0))) (fun j1 =>
  points_checkAll_l1 j1 p_l 0 ([] : List (Gpoints_entry × Bool)))
def points_CheckScored_l1 (p_l : List GScored) (j1 : Option Int) : List GScored → Nat → Option Int
  | [], _ => j1
  | y1 :: ys1, i1 => Option.bind (words_IsKey y1.Race) (fun r1 =>
  Join (fun (c1 : Bool) =>
  Join (fun (c2 : Bool) =>
  if c2 then
  some 5
  else
  if !(words_Within y1.Rank 0 300) then
  some 1
  else
  Join (fun (x1 : Bool) =>
  if x1 then
  some 7
  else
  points_CheckScored_l1 p_l j1 ys1 (i1 + 1)) (fun j5 =>
  if decide (0 < (i1 : Int)) then
  Chk (inB (W ((i1 : Int) - 1)) p_l.length) (
  j5 (decide (0 ≤ (points_compare (nth p_l (W ((i1 : Int) - 1))) y1))))
  else
  j5 false)) (fun j3 =>
  if c1 then j3 (c1 || true) else Join (fun (c3 : Bool) =>
  j3 (c1 || c3)) (fun j4 =>
  if (!decide (y1.Club = k_empty)) then Option.bind (words_IsKey y1.Club) (fun r3 =>
  j4 ((!decide (y1.Club = k_empty)) && (!r3))) else j4 ((!decide (y1.Club = k_empty)) && true)))) (fun j2 =>
  if (!r1) then j2 ((!r1) || true) else Option.bind (words_IsKey y1.Who) (fun r2 =>
  j2 ((!r1) || (!r2)))))
def points_CheckScored (p_l : List GScored) : Option Int :=
  if decide (2000 < (p_l.length : Int)) then
  some 2
  else
  Join (Option.bind (points_checkAll p_l) (fun r4 =>
  some r4)) (fun j1 =>
  points_CheckScored_l1 p_l j1 p_l 0)
def points_checkBoth (p_t : GTable) (p_l : List GScored) : Option Int :=
  Option.bind (points_CheckTable p_t) (fun r1 =>
  if !decide (r1 = 0) then
  some r1
  else
  Option.bind (points_CheckScored p_l) (fun r2 =>
  some r2))
def points_none : GFraction :=
  (GFraction.mk 0 1)
def words_Fraction_l1 (j1 : Int → Option GFraction) : Nat → Int → Int → Option GFraction
  | 0, _, _ => none
  | m1 + 1, x1, x2 => if decide (0 < x1) then
  Chk (!decide (x1 = 0)) (
  words_Fraction_l1 j1 m1 (Int.tmod x2 x1) x1)
  else
  j1 x2
def words_Fraction (p_a : Int) (p_b : Int) : Option GFraction :=
  Join (fun (x2 : Int) =>
  Chk (!decide (x2 = 0)) (
  Chk (!decide (x2 = 0)) (
  some (GFraction.mk (W (Int.tdiv p_a x2)) (W (Int.tdiv p_b x2)))))) (fun j1 =>
  words_Fraction_l1 j1 ((p_a - 0).toNat + 2) p_a p_b)
def points_race_l1 (p_t : GTable) (j1 : (List (ByteArray × Int)) → (List Int) → (List Gpoints_row) → Option (List Gpoints_row)) : List GScored → Nat → (List (ByteArray × Int)) → (List Int) → (List Gpoints_row) → Option (List Gpoints_row)
  | [], _, x1, x2, x3 => j1 x1 x2 x3
  | y1 :: ys1, i1, x1, x2, x3 => Join (fun (x4 : List (ByteArray × Int)) (x5 : List Int) (x6 : List Gpoints_row) =>
  points_race_l1 p_t j1 ys1 (i1 + 1) x4 x5 x6) (fun j2 =>
  if ((decide (y1.Rank = 0)) || (decide (y1.Club = k_empty))) then
  j2 x1 x2 x3
  else
  Join (fun (x7 : List Int) =>
  Chk (room x3.length) (
  j2 (mput x1 y1.Club (W ((mgetD x1 y1.Club 0) + 1))) x7 (x3 ++ [(Gpoints_row.mk y1 points_none)]))) (fun j3 =>
  if ((decide (p_t.Most = 0)) || (decide ((mgetD (mput x1 y1.Club (W ((mgetD x1 y1.Club 0) + 1))) y1.Club 0) ≤ p_t.Most))) then
  Chk (room x2.length) (
  j3 (x2 ++ [(x3.length : Int)]))
  else
  j3 x2))
def points_race_l3 (p_t : GTable) (x2 : List Int) (x8 : List Gpoints_row) (x9 : Int) (j5 : Int → Int → Option (List Gpoints_row)) : Nat → Int → Int → Option (List Gpoints_row)
  | 0, _, _ => none
  | m2 + 1, x10, x11 => Join (fun (c1 : Bool) =>
  if c1 then
  Join (fun (x12 : Int) =>
  points_race_l3 p_t x2 x8 x9 j5 m2 (W (x10 + 1)) x12) (fun j7 =>
  Join (fun (x13 : Int) =>
  j7 x13) (fun j8 =>
  if decide (x10 < (p_t.Points.length : Int)) then
  Chk (inB x10 p_t.Points.length) (
  j8 (W (x11 + (nth p_t.Points x10))))
  else
  j8 x11))
  else
  j5 x10 x11) (fun j6 =>
  if (decide (x10 < (x2.length : Int))) then Chk (inB x10 x2.length) (
  Chk (inB (nth x2 x10) x8.length) (
  Chk (inB x9 x2.length) (
  Chk (inB (nth x2 x9) x8.length) (
  j6 ((decide (x10 < (x2.length : Int))) && (decide ((((nth x8 (nth x2 x10)).x_).Rank) = (((nth x8 (nth x2 x9)).x_).Rank)))))))) else j6 ((decide (x10 < (x2.length : Int))) && true))
def points_race_l4 (x10 : Int) (x9 : Int) (x14 : Int) (x2 : List Int) (j10 : (List Gpoints_row) → Option (List Gpoints_row)) : Nat → (List Gpoints_row) → Int → Option (List Gpoints_row)
  | 0, _, _ => none
  | m3 + 1, x15, x16 => if decide (x16 < ((x10.toNat - x9.toNat : Nat) : Int)) then
  Chk (inB x16 (x10.toNat - x9.toNat)) (
  Option.bind (words_Fraction x14 (W (x10 - x9))) (fun r1 =>
  Chk (inB (nth (cut x2 x9 x10) x16) x15.length) (
  points_race_l4 x10 x9 x14 x2 j10 m3 (x15.set ((nth (cut x2 x9 x10) x16).toNat) (Gpoints_row.mk ((nth x15 (nth (cut x2 x9 x10) x16)).x_) r1)) (W (x16 + 1)))))
  else
  j10 x15
def points_race_l2 (x2 : List Int) (p_l : List GScored) (p_t : GTable) (j4 : (List Gpoints_row) → Option (List Gpoints_row)) : Nat → (List Gpoints_row) → Int → Option (List Gpoints_row)
  | 0, _, _ => none
  | m1 + 1, x8, x9 => if decide (x9 < (x2.length : Int)) then
  Join (fun (x10 : Int) (x11 : Int) =>
  Chk (inB 0 p_l.length) (
  Join (fun (x14 : Int) =>
  Chk (cutB x9 x10 x2.length) (
  Join (fun (x15 : List Gpoints_row) =>
  points_race_l2 x2 p_l p_t j4 m1 x15 x10) (fun j10 =>
  points_race_l4 x10 x9 x14 x2 j10 ((((x10.toNat - x9.toNat : Nat) : Int) - 0).toNat + 2) x8 0))) (fun j9 =>
  if (nth p_l 0).Relay then
  j9 (W (x11 * p_t.Relay))
  else
  j9 x11))) (fun j5 =>
  points_race_l3 p_t x2 x8 x9 j5 (((x2.length : Int) - x9).toNat + 2) x9 0)
  else
  j4 x8
def points_race (p_t : GTable) (p_l : List GScored) : Option (List Gpoints_row) :=
  Join (fun (x1 : List (ByteArray × Int)) (x2 : List Int) (x3 : List Gpoints_row) =>
  Join (fun (x8 : List Gpoints_row) =>
  some x8) (fun j4 =>
  points_race_l2 x2 p_l p_t j4 (((x2.length : Int) - 0).toNat + 2) x3 0)) (fun j1 =>
  points_race_l1 p_t j1 p_l 0 ([] : List (ByteArray × Int)) ([] : List Int) ([] : List Gpoints_row))
def points_rows_l1 (p_t : GTable) (j1 : (List Gpoints_row) → Option (List Gpoints_row)) : List (List GScored) → Nat → (List Gpoints_row) → Option (List Gpoints_row)
  | [], _, x1 => j1 x1
  | y1 :: ys1, i1, x1 => Option.bind (points_race p_t y1) (fun r3 =>
  Chk (decide (x1.length + r3.length < 1073741824)) (
  points_rows_l1 p_t j1 ys1 (i1 + 1) (x1 ++ r3)))
def points_rows (p_t : GTable) (p_l : List GScored) : Option (List Gpoints_row) :=
  Option.bind (points_races p_l) (fun r1 =>
  Join (fun (x1 : List Gpoints_row) =>
  some x1) (fun j1 =>
  points_rows_l1 p_t j1 r1 0 ([] : List Gpoints_row)))
def points_add (p_a : GFraction) (p_b : GFraction) : Option GFraction :=
  Option.bind (words_Fraction (W ((W (p_a.Num * p_b.Den)) + (W (p_b.Num * p_a.Den)))) (W (p_a.Den * p_b.Den))) (fun r1 =>
  some r1)
def points_clubs_l1 (j1 : (List (ByteArray × GFraction)) → Option (List (ByteArray × GFraction))) : List GScored → Nat → (List (ByteArray × GFraction)) → Option (List (ByteArray × GFraction))
  | [], _, x1 => j1 x1
  | y1 :: ys1, i1, x1 => Join (fun (x2 : List (ByteArray × GFraction)) =>
  points_clubs_l1 j1 ys1 (i1 + 1) x2) (fun j2 =>
  Join (fun (x3 : List (ByteArray × GFraction)) =>
  j2 x3) (fun j3 =>
  if !decide (y1.Club = k_empty) then
  j3 (mput x1 y1.Club points_none)
  else
  j3 x1))
def points_clubs_l2 (j4 : (List (ByteArray × GFraction)) → Option (List (ByteArray × GFraction))) : List Gpoints_row → Nat → (List (ByteArray × GFraction)) → Option (List (ByteArray × GFraction))
  | [], _, x4 => j4 x4
  | y2 :: ys2, i2, x4 => Option.bind (points_add (mgetD x4 y2.x_.Club (GFraction.mk 0 0)) y2.points_) (fun r2 =>
  points_clubs_l2 j4 ys2 (i2 + 1) (mput x4 y2.x_.Club r2))
def points_clubs (p_t : GTable) (p_l : List GScored) : Option (List (ByteArray × GFraction)) :=
  Join (fun (x1 : List (ByteArray × GFraction)) =>
  Option.bind (points_rows p_t p_l) (fun r1 =>
  Join (fun (x4 : List (ByteArray × GFraction)) =>
  some x4) (fun j4 =>
  points_clubs_l2 j4 r1 0 x1))) (fun j1 =>
  points_clubs_l1 j1 p_l 0 ([] : List (ByteArray × GFraction)))
def points_sums_c1 (p_a : GGiven) (p_b : GGiven) : Int :=
  (strings_Compare p_a.Key p_b.Key)
def slices_insertionSortCmpFunc_Given_points_sums_c1_l2 (p_a : Int) (j2 : (List GGiven) → Option (List GGiven)) : Nat → (List GGiven) → Int → Option (List GGiven)
  | 0, _, _ => none
  | m2 + 1, x3, x4 => Join (fun (x5 : Bool) =>
  if x5 then
  Chk (inB (W (x4 - 1)) x3.length) (
  Chk (inB x4 x3.length) (
  Chk (inB x4 x3.length) (
  Chk (inB (W (x4 - 1)) (x3.set x4.toNat (GGiven.mk ((nth x3 (W (x4 - 1))).Key) ((nth x3 (W (x4 - 1))).Points))).length) (
  slices_insertionSortCmpFunc_Given_points_sums_c1_l2 p_a j2 m2 ((x3.set x4.toNat (GGiven.mk ((nth x3 (W (x4 - 1))).Key) ((nth x3 (W (x4 - 1))).Points))).set ((W (x4 - 1)).toNat) (GGiven.mk ((nth x3 x4).Key) ((nth x3 x4).Points))) (W (x4 - 1))))))
  else
  j2 x3) (fun j3 =>
  if decide (p_a < x4) then
  Chk (inB x4 x3.length) (
  Chk (inB (W (x4 - 1)) x3.length) (
  j3 (decide ((points_sums_c1 (GGiven.mk ((nth x3 x4).Key) ((nth x3 x4).Points)) (GGiven.mk ((nth x3 (W (x4 - 1))).Key) ((nth x3 (W (x4 - 1))).Points))) < 0))))
  else
  j3 false)
def slices_insertionSortCmpFunc_Given_points_sums_c1_l1 (p_b : Int) (p_a : Int) (j1 : (List GGiven) → Option (List GGiven)) : Nat → (List GGiven) → Int → Option (List GGiven)
  | 0, _, _ => none
  | m1 + 1, x1, x2 => if decide (x2 < p_b) then
  Join (fun (x3 : List GGiven) =>
  slices_insertionSortCmpFunc_Given_points_sums_c1_l1 p_b p_a j1 m1 x3 (W (x2 + 1))) (fun j2 =>
  slices_insertionSortCmpFunc_Given_points_sums_c1_l2 p_a j2 ((x2 - p_a).toNat + 2) x1 x2)
  else
  j1 x1
def slices_insertionSortCmpFunc_Given_points_sums_c1 (p_data : List GGiven) (p_a : Int) (p_b : Int) : Option (List GGiven) :=
  Join (fun (x1 : List GGiven) =>
  some x1) (fun j1 =>
  slices_insertionSortCmpFunc_Given_points_sums_c1_l1 p_b p_a j1 ((p_b - (W (p_a + 1))).toNat + 2) p_data (W (p_a + 1)))
def slices_pdqsortCmpFunc_Given_points_sums_c1_l1 (p_data : List GGiven) : Nat → Int → Int → Int → Bool → Option (List GGiven)
  | 0, _, _, _, _ => none
  | _ + 1, x1, x2, x3, x4 => if decide ((W (x2 - x1)) ≤ 12) then
  Option.bind (slices_insertionSortCmpFunc_Given_points_sums_c1 p_data x1 x2) (fun r1 =>
  some r1)
  else
  if decide (x3 = 0) then
  none
  else
  if !x4 then
  none
  else
  none
def slices_pdqsortCmpFunc_Given_points_sums_c1 (p_data : List GGiven) (p_a : Int) (p_b : Int) (p_limit : Int) : Option (List GGiven) :=
  slices_pdqsortCmpFunc_Given_points_sums_c1_l1 p_data 4611686018427387904 p_a p_b p_limit true
def slices_SortFunc_Given_points_sums_c1 (p_x : List GGiven) : Option (List GGiven) :=
  Option.bind (bits_Len (IntKind.wrap .u64 (p_x.length : Int))) (fun r1 =>
  Option.bind (slices_pdqsortCmpFunc_Given_points_sums_c1 p_x 0 (p_x.length : Int) r1) (fun r2 =>
  some r2))
def points_sums_l1 (j1 : (List GGiven) → Option (List GGiven)) : List (ByteArray × GFraction) → (List GGiven) → Option (List GGiven)
  | [], x1 => j1 x1
  | y1 :: ys1, x1 => Option.bind (α := (List GGiven)) (
  Chk (room x1.length) (
  some (x1 ++ [(GGiven.mk y1.1 y1.2)]))) (fun s => points_sums_l1 j1 ys1 s)
def points_sums (p_m : List (ByteArray × GFraction)) : Option (List GGiven) :=
  Join (fun (x1 : List GGiven) =>
  Option.bind (slices_SortFunc_Given_points_sums_c1 x1) (fun r1 =>
  some r1)) (fun j1 =>
  AllP p_m (fun p => points_sums_l1 j1 p ([] : List GGiven)))
def points_Clubs (p_t : GTable) (p_l : List GScored) : Option ((List GGiven) × Int) :=
  Option.bind (points_checkBoth p_t p_l) (fun r1 =>
  if !decide (r1 = 0) then
  some (([] : List GGiven), r1)
  else
  Option.bind (points_clubs p_t p_l) (fun r2 =>
  Option.bind (points_sums r2) (fun r3 =>
  some (r3, 0))))
def points_more (p_a : GFraction) (p_b : GFraction) : Bool :=
  decide ((W (p_b.Num * p_a.Den)) < (W (p_a.Num * p_b.Den)))
def points_Ranks_l1 (j1 : Option ((List Int) × Int)) : List GGiven → Nat → Option ((List Int) × Int)
  | [], _ => j1
  | y1 :: ys1, i1 => if decide (y1.Key = k_empty) then
  some (([] : List Int), 5)
  else
  if ((!(words_Within y1.Points.Den 1 1000000)) || (!(words_Within y1.Points.Num 0 1000000000))) then
  some (([] : List Int), 1)
  else
  points_Ranks_l1 j1 ys1 (i1 + 1)
def points_Ranks_l3 (y2 : GGiven) (j3 : Int → Option ((List Int) × Int)) : List GGiven → Nat → Int → Option ((List Int) × Int)
  | [], _, x2 => j3 x2
  | y3 :: ys3, i3, x2 => Join (fun (x3 : Int) =>
  points_Ranks_l3 y2 j3 ys3 (i3 + 1) x3) (fun j4 =>
  Join (fun (x4 : Int) =>
  j4 x4) (fun j5 =>
  if (points_more y3.Points y2.Points) then
  j5 (W (x2 + 1))
  else
  j5 x2))
def points_Ranks_l2 (p_l : List GGiven) (j2 : (List Int) → Option ((List Int) × Int)) : List GGiven → Nat → (List Int) → Option ((List Int) × Int)
  | [], _, x1 => j2 x1
  | y2 :: ys2, i2, x1 => Join (fun (x2 : Int) =>
  Chk (room x1.length) (
  points_Ranks_l2 p_l j2 ys2 (i2 + 1) (x1 ++ [x2]))) (fun j3 =>
  points_Ranks_l3 y2 j3 p_l 0 1)
def points_Ranks (p_l : List GGiven) : Option ((List Int) × Int) :=
  if decide (2000 < (p_l.length : Int)) then
  some (([] : List Int), 2)
  else
  Join (Join (fun (x1 : List Int) =>
  some (x1, 0)) (fun j2 =>
  points_Ranks_l2 p_l j2 p_l 0 ([] : List Int))) (fun j1 =>
  points_Ranks_l1 j1 p_l 0)
def points_checkLeft (p_races : Int) (p_starters : Int) (p_relays : Int) : Int :=
  if (((!(words_Within p_races 0 100)) || (!(words_Within p_starters 0 10))) || (!(words_Within p_relays 0 100))) then
  1
  else
  0
def points_left_l1 (p_relays : Int) (p_t : GTable) (x1 : Int) (p_races : Int) (j2 : Int → Int) : List Int → Nat → Int → Int
  | [], _, x2 => j2 x2
  | y1 :: ys1, i1, x2 => Join (fun (x3 : Int) =>
  points_left_l1 p_relays p_t x1 p_races j2 ys1 (i1 + 1) x3) (fun j3 =>
  Join (fun (x4 : Int) =>
  Join (fun (x5 : Int) =>
  j3 x5) (fun j5 =>
  if decide ((i1 : Int) = 0) then
  j5 (W (x4 + (W ((W (p_relays * p_t.Relay)) * y1))))
  else
  j5 x4)) (fun j4 =>
  if decide ((i1 : Int) < x1) then
  j4 (W (x2 + (W (p_races * y1))))
  else
  j4 x2))
def points_left (p_t : GTable) (p_races : Int) (p_starters : Int) (p_relays : Int) : Int :=
  Join (fun (x1 : Int) =>
  Join (fun (x2 : Int) =>
  x2) (fun j2 =>
  points_left_l1 p_relays p_t x1 p_races j2 p_t.Points 0 0)) (fun j1 =>
  if decide (0 < p_t.Most) then
  j1 (imin p_starters p_t.Most)
  else
  j1 p_starters)
def points_CanWin_c1 (p_y : GGiven) (p_a1 : GGiven) (p_a2 : GFraction) : Option Bool :=
  Join (fun (x1 : Bool) =>
  some x1) (fun j1 =>
  if !decide (p_y.Key = p_a1.Key) then
  Option.bind (points_add p_a1.Points p_a2) (fun r1 =>
  j1 (points_more p_y.Points r1))
  else
  j1 false)
def slices_IndexFunc_Given_points_CanWin_c1_l1 (p_f_0 : GGiven) (p_f_1 : GFraction) (j1 : Option Int) : List GGiven → Nat → Option Int
  | [], _ => j1
  | y1 :: ys1, i1 => Option.bind (points_CanWin_c1 y1 p_f_0 p_f_1) (fun r1 =>
  if r1 then
  some (i1 : Int)
  else
  slices_IndexFunc_Given_points_CanWin_c1_l1 p_f_0 p_f_1 j1 ys1 (i1 + 1))
def slices_IndexFunc_Given_points_CanWin_c1 (p_s : List GGiven) (p_f_0 : GGiven) (p_f_1 : GFraction) : Option Int :=
  Join (some (-1)) (fun j1 =>
  slices_IndexFunc_Given_points_CanWin_c1_l1 p_f_0 p_f_1 j1 p_s 0)
def slices_ContainsFunc_Given_points_CanWin_c1 (p_s : List GGiven) (p_f_0 : GGiven) (p_f_1 : GFraction) : Option Bool :=
  Option.bind (slices_IndexFunc_Given_points_CanWin_c1 p_s p_f_0 p_f_1) (fun r1 =>
  some (decide (0 ≤ r1)))
def points_CanWin_l1 (r3 : (List GGiven)) (p_t : GTable) (p_races : Int) (p_starters : Int) (p_relays : Int) (j1 : (List ByteArray) → Option ((List ByteArray) × Int)) : List GGiven → Nat → (List ByteArray) → Option ((List ByteArray) × Int)
  | [], _, x1 => j1 x1
  | y1 :: ys1, i1, x1 => Join (fun (x2 : List ByteArray) =>
  points_CanWin_l1 r3 p_t p_races p_starters p_relays j1 ys1 (i1 + 1) x2) (fun j2 =>
  Option.bind (slices_ContainsFunc_Given_points_CanWin_c1 r3 y1 (GFraction.mk (points_left p_t p_races p_starters p_relays) 1)) (fun r4 =>
  Join (fun (x3 : List ByteArray) =>
  j2 x3) (fun j3 =>
  if !r4 then
  Chk (room x1.length) (
  j3 (x1 ++ [y1.Key]))
  else
  j3 x1)))
def points_CanWin (p_t : GTable) (p_l : List GScored) (p_races : Int) (p_starters : Int) (p_relays : Int) : Option ((List ByteArray) × Int) :=
  Option.bind (points_checkBoth p_t p_l) (fun r1 =>
  if !decide (r1 = 0) then
  some (([] : List ByteArray), r1)
  else
  if !decide ((points_checkLeft p_races p_starters p_relays) = 0) then
  some (([] : List ByteArray), (points_checkLeft p_races p_starters p_relays))
  else
  Option.bind (points_clubs p_t p_l) (fun r2 =>
  Option.bind (points_sums r2) (fun r3 =>
  Join (fun (x1 : List ByteArray) =>
  some (x1, 0)) (fun j1 =>
  points_CanWin_l1 r3 p_t p_races p_starters p_relays j1 r3 0 ([] : List ByteArray)))))
def tumbkeep2_errs_l1 (j1 : Int) : List Int → Nat → Int
  | [], _ => j1
  | y1 :: ys1, i1 => if !decide (y1 = 0) then
  y1
  else
  tumbkeep2_errs_l1 j1 ys1 (i1 + 1)
def tumbkeep2_errs (p_l : List Int) : Int :=
  Join (0) (fun j1 =>
  tumbkeep2_errs_l1 j1 p_l 0)
def slices_Index_string_l1 (p_v : ByteArray) (j1 : Int) : List ByteArray → Nat → Int
  | [], _ => j1
  | y1 :: ys1, i1 => if decide (p_v = y1) then
  (i1 : Int)
  else
  slices_Index_string_l1 p_v j1 ys1 (i1 + 1)
def slices_Index_string (p_s : List ByteArray) (p_v : ByteArray) : Int :=
  Join ((-1)) (fun j1 =>
  slices_Index_string_l1 p_v j1 p_s 0)
def slices_Contains_string (p_s : List ByteArray) (p_v : ByteArray) : Bool :=
  decide (0 ≤ (slices_Index_string p_s p_v))
def swimmer_leap (p_year : Int) : Bool :=
  ((decide ((Int.tmod p_year 4) = 0)) && ((!decide ((Int.tmod p_year 100) = 0)) || (decide ((Int.tmod p_year 400) = 0))))
def swimmer_long (p_year : Int) (p_month : Int) : Int :=
  if decide (p_month = 2) then
  if (swimmer_leap p_year) then
  29
  else
  28
  else
  Join (fun (x1 : Bool) =>
  if x1 then
  30
  else
  31) (fun j1 =>
  if decide (p_month = 4) then
  j1 (decide (p_month = 4))
  else
  Join (fun (x2 : Bool) =>
  j1 x2) (fun j2 =>
  if decide (p_month = 6) then
  j2 (decide (p_month = 6))
  else
  Join (fun (x3 : Bool) =>
  j2 x3) (fun j3 =>
  if decide (p_month = 9) then
  j3 (decide (p_month = 9))
  else
  j3 (decide (p_month = 11)))))
def swimmer_yearLong (p_year : Int) : Int :=
  if (swimmer_leap p_year) then
  366
  else
  365
def swimmer_isDay (p_n : Int) : Bool :=
  (words_Within p_n (-40000) 4000)
def swimmer_DayOf_l1 (p_d : GDate) (j2 : Int → Option (Int × Int)) : Nat → Int → Int → Option (Int × Int)
  | 0, _, _ => none
  | m1 + 1, x2, x3 => if decide (x3 < p_d.Month) then
  swimmer_DayOf_l1 p_d j2 m1 (W (x2 + (swimmer_long p_d.Year x3))) (W (x3 + 1))
  else
  j2 x2
def swimmer_DayOf_l2 (p_d : GDate) (j3 : Int → Option (Int × Int)) : Nat → Int → Int → Option (Int × Int)
  | 0, _, _ => none
  | m2 + 1, x4, x5 => if decide (x5 < p_d.Year) then
  swimmer_DayOf_l2 p_d j3 m2 (W (x4 + (swimmer_yearLong x5))) (W (x5 + 1))
  else
  j3 x4
def swimmer_DayOf_l3 (j4 : Int → Option (Int × Int)) : Nat → Int → Int → Option (Int × Int)
  | 0, _, _ => none
  | m3 + 1, x6, x7 => if decide (x7 < 2024) then
  swimmer_DayOf_l3 j4 m3 (W (x6 - (swimmer_yearLong x7))) (W (x7 + 1))
  else
  j4 x6
def swimmer_DayOf (p_d : GDate) : Option (Int × Int) :=
  Join (fun (x1 : Bool) =>
  if x1 then
  some (0, 1)
  else
  Join (fun (x2 : Int) =>
  Join (fun (x4 : Int) =>
  Join (fun (x6 : Int) =>
  if !(swimmer_isDay x6) then
  some (0, 1)
  else
  some (x6, 0)) (fun j4 =>
  swimmer_DayOf_l3 j4 ((2024 - p_d.Year).toNat + 2) x4 p_d.Year)) (fun j3 =>
  swimmer_DayOf_l2 p_d j3 ((p_d.Year - 2024).toNat + 2) x2 2024)) (fun j2 =>
  swimmer_DayOf_l1 p_d j2 ((p_d.Month - 1).toNat + 2) (W (p_d.Day - 1)) 1)) (fun j1 =>
  if !(words_Within p_d.Year 1900 2100) then
  if true then
  j1 true
  else
  j1 (!(words_Within p_d.Day 1 (swimmer_long p_d.Year p_d.Month)))
  else
  if !(words_Within p_d.Month 1 12) then
  j1 true
  else
  j1 (!(words_Within p_d.Day 1 (swimmer_long p_d.Year p_d.Month))))
def session_CheckItems_l1 (j1 : (List (ByteArray × Bool)) → Option Int) : List GItem → Nat → (List (ByteArray × Bool)) → Option Int
  | [], _, x1 => j1 x1
  | y1 :: ys1, i1, x1 => Option.bind (words_IsKey y1.Key) (fun r1 =>
  if !r1 then
  some 5
  else
  if mgetD x1 y1.Key false then
  some 6
  else
  if ((((!(words_Within y1.Heats 1 60)) || (!(words_Within y1.Long 1 3600000))) || (!(words_Within y1.Gap 0 3600000))) || (!(words_Within y1.Break 0 3600000))) then
  some 1
  else
  session_CheckItems_l1 j1 ys1 (i1 + 1) (mput x1 y1.Key true))
def session_CheckItems (p_l : List GItem) : Option Int :=
  if decide (100 < (p_l.length : Int)) then
  some 2
  else
  Join (fun (x1 : List (ByteArray × Bool)) =>
  some 0) (fun j1 =>
  session_CheckItems_l1 j1 p_l 0 ([] : List (ByteArray × Bool)))
def words_IsMoment (p_n : Int) : Bool :=
  ((decide (0 ≤ p_n)) && (decide (p_n < 345686400000)))
def session_timetable_l2 (y1 : GItem) (j2 : (List GSlot) → Int → Option (List GSlot)) : Nat → (List GSlot) → Int → Int → Option (List GSlot)
  | 0, _, _, _ => none
  | m1 + 1, x3, x4, x5 => if decide (x5 ≤ y1.Heats) then
  Join (fun (x6 : List GSlot) (x7 : Int) =>
  session_timetable_l2 y1 j2 m1 x6 x7 (W (x5 + 1))) (fun j3 =>
  Chk (room x3.length) (
  Join (fun (x8 : Int) =>
  j3 (x3 ++ [(GSlot.mk y1.Key x5 (GWindow.mk x4 (W (x4 + y1.Long))))]) x8) (fun j4 =>
  if decide (x5 < y1.Heats) then
  j4 (W ((W (x4 + y1.Long)) + y1.Gap))
  else
  j4 (W (x4 + y1.Long)))))
  else
  j2 x3 x4
def session_timetable_l1 (j1 : (List GSlot) → Option (List GSlot)) : List GItem → Nat → (List GSlot) → Int → Option (List GSlot)
  | [], _, x1, _ => j1 x1
  | y1 :: ys1, i1, x1, x2 => Join (fun (x3 : List GSlot) (x4 : Int) =>
  session_timetable_l1 j1 ys1 (i1 + 1) x3 (W (x4 + y1.Break))) (fun j2 =>
  session_timetable_l2 y1 j2 ((y1.Heats - 1).toNat + 2) x1 x2 1)
def session_timetable (p_l : List GItem) (p_from : Int) : Option (List GSlot) :=
  Join (fun (x1 : List GSlot) =>
  some x1) (fun j1 =>
  session_timetable_l1 j1 p_l 0 ([] : List GSlot) p_from)
def session_end (p_l : List GSlot) (p_from : Int) : Option Int :=
  if decide ((p_l.length : Int) = 0) then
  some p_from
  else
  Chk (inB (W ((p_l.length : Int) - 1)) p_l.length) (
  some (((nth p_l (W ((p_l.length : Int) - 1))).Time).To))
def session_begin (p_l : List GItem) (p_from : Int) : Option ((List GSlot) × Int) :=
  if !(words_IsMoment p_from) then
  some (([] : List GSlot), 1)
  else
  Option.bind (session_timetable p_l p_from) (fun r1 =>
  Option.bind (session_end r1 p_from) (fun r2 =>
  if decide (345686400000 < r2) then
  some (([] : List GSlot), 1)
  else
  some (r1, 0)))
def session_Timetable (p_l : List GItem) (p_from : Int) : Option ((List GSlot) × Int) :=
  Option.bind (session_CheckItems p_l) (fun r1 =>
  if !decide (r1 = 0) then
  some (([] : List GSlot), r1)
  else
  Option.bind (session_begin p_l p_from) (fun r2 =>
  some (r2.1, r2.2)))
def session_Ends (p_l : List GItem) (p_from : Int) : Option (Int × Int) :=
  Option.bind (session_Timetable p_l p_from) (fun r1 =>
  if !decide (r1.2 = 0) then
  some (0, r1.2)
  else
  Option.bind (session_end r1.1 p_from) (fun r2 =>
  some (r2, 0)))
def timing_IsTime (p_n : Int) : Bool :=
  (words_Within p_n 1 360000)
def points_CheckBase_l1 (p_l : List GBase) (j1 : Option Int) : List GBase → Nat → Option Int
  | [], _ => j1
  | y1 :: ys1, i1 => Option.bind (words_IsKey y1.Race) (fun r1 =>
  if !r1 then
  some 5
  else
  Join (fun (c1 : Bool) =>
  if c1 then
  some 7
  else
  if !(timing_IsTime y1.Time) then
  some 1
  else
  points_CheckBase_l1 p_l j1 ys1 (i1 + 1)) (fun j2 =>
  if (decide (0 < (i1 : Int))) then Chk (inB (W ((i1 : Int) - 1)) p_l.length) (
  j2 ((decide (0 < (i1 : Int))) && (Sless y1.Race ((nth p_l (W ((i1 : Int) - 1))).Race) || decide (y1.Race = ((nth p_l (W ((i1 : Int) - 1))).Race))))) else j2 ((decide (0 < (i1 : Int))) && true)))
def points_CheckBase (p_l : List GBase) : Option Int :=
  if decide (500 < (p_l.length : Int)) then
  some 2
  else
  Join (some 0) (fun j1 =>
  points_CheckBase_l1 p_l j1 p_l 0)
def points_baseOf_l1 (p_race : ByteArray) (j1 : Int) : List GBase → Nat → Int
  | [], _ => j1
  | y1 :: ys1, i1 => if decide (y1.Race = p_race) then
  y1.Time
  else
  points_baseOf_l1 p_race j1 ys1 (i1 + 1)
def points_baseOf (p_l : List GBase) (p_race : ByteArray) : Int :=
  Join (0) (fun j1 =>
  points_baseOf_l1 p_race j1 p_l 0)
def bits_Mul64 (p_x : Int) (p_y : Int) : (Int × Int) :=
  (IntKind.wrap .u64 ((IntKind.wrap .u64 ((IntKind.wrap .u64 ((bitShr .u64 p_x 32) * (bitShr .u64 p_y 32))) + (bitShr .u64 (IntKind.wrap .u64 ((IntKind.wrap .u64 ((bitShr .u64 p_x 32) * (bitAnd .u64 p_y 4294967295))) + (bitShr .u64 (IntKind.wrap .u64 ((bitAnd .u64 p_x 4294967295) * (bitAnd .u64 p_y 4294967295))) 32))) 32))) + (bitShr .u64 (IntKind.wrap .u64 ((bitAnd .u64 (IntKind.wrap .u64 ((IntKind.wrap .u64 ((bitShr .u64 p_x 32) * (bitAnd .u64 p_y 4294967295))) + (bitShr .u64 (IntKind.wrap .u64 ((bitAnd .u64 p_x 4294967295) * (bitAnd .u64 p_y 4294967295))) 32))) 4294967295) + (IntKind.wrap .u64 ((bitAnd .u64 p_x 4294967295) * (bitShr .u64 p_y 32))))) 32)), IntKind.wrap .u64 (p_x * p_y))
def bits_LeadingZeros64 (p_x : Int) : Option Int :=
  Option.bind (bits_Len64 p_x) (fun r1 =>
  some (W (64 - r1)))
def bits_Div64_l1 (p_lo : Int) (r1 : Int) (p_y : Int) (j1 : Int → Option (Int × Int)) : Nat → Int → Int → Option (Int × Int)
  | 0, _, _ => none
  | m1 + 1, x1, x2 => if ((decide (4294967296 ≤ x1)) || (decide ((IntKind.wrap .u64 ((IntKind.wrap .u64 (4294967296 * x2)) + (bitShr .u64 (bitShl .u64 p_lo (IntKind.wrap .u64 r1)) 32))) < (IntKind.wrap .u64 (x1 * (bitAnd .u64 (bitShl .u64 p_y (IntKind.wrap .u64 r1)) 4294967295)))))) then
  if decide (4294967296 ≤ (IntKind.wrap .u64 (x2 + (bitShr .u64 (bitShl .u64 p_y (IntKind.wrap .u64 r1)) 32)))) then
  j1 (IntKind.wrap .u64 (x1 - 1))
  else
  bits_Div64_l1 p_lo r1 p_y j1 m1 (IntKind.wrap .u64 (x1 - 1)) (IntKind.wrap .u64 (x2 + (bitShr .u64 (bitShl .u64 p_y (IntKind.wrap .u64 r1)) 32)))
  else
  j1 x1
def bits_Div64_l2 (p_lo : Int) (r1 : Int) (p_y : Int) (j2 : Int → Option (Int × Int)) : Nat → Int → Int → Option (Int × Int)
  | 0, _, _ => none
  | m2 + 1, x3, x4 => if ((decide (4294967296 ≤ x4)) || (decide ((IntKind.wrap .u64 ((IntKind.wrap .u64 (4294967296 * x3)) + (bitAnd .u64 (bitShl .u64 p_lo (IntKind.wrap .u64 r1)) 4294967295))) < (IntKind.wrap .u64 (x4 * (bitAnd .u64 (bitShl .u64 p_y (IntKind.wrap .u64 r1)) 4294967295)))))) then
  if decide (4294967296 ≤ (IntKind.wrap .u64 (x3 + (bitShr .u64 (bitShl .u64 p_y (IntKind.wrap .u64 r1)) 32)))) then
  j2 (IntKind.wrap .u64 (x4 - 1))
  else
  bits_Div64_l2 p_lo r1 p_y j2 m2 (IntKind.wrap .u64 (x3 + (bitShr .u64 (bitShl .u64 p_y (IntKind.wrap .u64 r1)) 32))) (IntKind.wrap .u64 (x4 - 1))
  else
  j2 x4
def bits_Div64 (p_hi : Int) (p_lo : Int) (p_y : Int) : Option (Int × Int) :=
  if decide (p_y = 0) then
  none
  else
  if decide (p_y ≤ p_hi) then
  none
  else
  if decide (p_hi = 0) then
  Chk (!decide (p_y = 0)) (
  Chk (!decide (p_y = 0)) (
  some (IntKind.wrap .u64 (Int.tdiv p_lo p_y), Int.tmod p_lo p_y)))
  else
  Option.bind (bits_LeadingZeros64 p_y) (fun r1 =>
  Chk (decide (0 ≤ (IntKind.wrap .u64 r1))) (
  Chk (decide (0 ≤ (IntKind.wrap .u64 r1))) (
  Chk (decide (0 ≤ (IntKind.wrap .u64 (64 - (IntKind.wrap .u64 r1))))) (
  Chk (decide (0 ≤ (IntKind.wrap .u64 r1))) (
  Chk (!decide ((bitShr .u64 (bitShl .u64 p_y (IntKind.wrap .u64 r1)) 32) = 0)) (
  Join (fun (x1 : Int) =>
  Chk (!decide ((bitShr .u64 (bitShl .u64 p_y (IntKind.wrap .u64 r1)) 32) = 0)) (
  Join (fun (x4 : Int) =>
  Chk (decide (0 ≤ (IntKind.wrap .u64 r1))) (
  some (IntKind.wrap .u64 ((IntKind.wrap .u64 (x1 * 4294967296)) + x4), bitShr .u64 (IntKind.wrap .u64 ((IntKind.wrap .u64 ((IntKind.wrap .u64 ((IntKind.wrap .u64 ((IntKind.wrap .u64 ((IntKind.wrap .u64 ((bitOr .u64 (bitShl .u64 p_hi (IntKind.wrap .u64 r1)) (bitShr .u64 p_lo (IntKind.wrap .u64 (64 - (IntKind.wrap .u64 r1))))) * 4294967296)) + (bitShr .u64 (bitShl .u64 p_lo (IntKind.wrap .u64 r1)) 32))) - (IntKind.wrap .u64 (x1 * (bitShl .u64 p_y (IntKind.wrap .u64 r1)))))) * 4294967296)) + (bitAnd .u64 (bitShl .u64 p_lo (IntKind.wrap .u64 r1)) 4294967295))) - (IntKind.wrap .u64 (x4 * (bitShl .u64 p_y (IntKind.wrap .u64 r1)))))) (IntKind.wrap .u64 r1)))) (fun j2 =>
  bits_Div64_l2 p_lo r1 p_y j2 (((IntKind.wrap .u64 (Int.tdiv (IntKind.wrap .u64 ((IntKind.wrap .u64 ((IntKind.wrap .u64 ((bitOr .u64 (bitShl .u64 p_hi (IntKind.wrap .u64 r1)) (bitShr .u64 p_lo (IntKind.wrap .u64 (64 - (IntKind.wrap .u64 r1))))) * 4294967296)) + (bitShr .u64 (bitShl .u64 p_lo (IntKind.wrap .u64 r1)) 32))) - (IntKind.wrap .u64 (x1 * (bitShl .u64 p_y (IntKind.wrap .u64 r1)))))) (bitShr .u64 (bitShl .u64 p_y (IntKind.wrap .u64 r1)) 32))) - 4294967296).toNat + 2) (IntKind.wrap .u64 ((IntKind.wrap .u64 ((IntKind.wrap .u64 ((IntKind.wrap .u64 ((bitOr .u64 (bitShl .u64 p_hi (IntKind.wrap .u64 r1)) (bitShr .u64 p_lo (IntKind.wrap .u64 (64 - (IntKind.wrap .u64 r1))))) * 4294967296)) + (bitShr .u64 (bitShl .u64 p_lo (IntKind.wrap .u64 r1)) 32))) - (IntKind.wrap .u64 (x1 * (bitShl .u64 p_y (IntKind.wrap .u64 r1)))))) - (IntKind.wrap .u64 ((IntKind.wrap .u64 (Int.tdiv (IntKind.wrap .u64 ((IntKind.wrap .u64 ((IntKind.wrap .u64 ((bitOr .u64 (bitShl .u64 p_hi (IntKind.wrap .u64 r1)) (bitShr .u64 p_lo (IntKind.wrap .u64 (64 - (IntKind.wrap .u64 r1))))) * 4294967296)) + (bitShr .u64 (bitShl .u64 p_lo (IntKind.wrap .u64 r1)) 32))) - (IntKind.wrap .u64 (x1 * (bitShl .u64 p_y (IntKind.wrap .u64 r1)))))) (bitShr .u64 (bitShl .u64 p_y (IntKind.wrap .u64 r1)) 32))) * (bitShr .u64 (bitShl .u64 p_y (IntKind.wrap .u64 r1)) 32))))) (IntKind.wrap .u64 (Int.tdiv (IntKind.wrap .u64 ((IntKind.wrap .u64 ((IntKind.wrap .u64 ((bitOr .u64 (bitShl .u64 p_hi (IntKind.wrap .u64 r1)) (bitShr .u64 p_lo (IntKind.wrap .u64 (64 - (IntKind.wrap .u64 r1))))) * 4294967296)) + (bitShr .u64 (bitShl .u64 p_lo (IntKind.wrap .u64 r1)) 32))) - (IntKind.wrap .u64 (x1 * (bitShl .u64 p_y (IntKind.wrap .u64 r1)))))) (bitShr .u64 (bitShl .u64 p_y (IntKind.wrap .u64 r1)) 32)))))) (fun j1 =>
  bits_Div64_l1 p_lo r1 p_y j1 (((IntKind.wrap .u64 (Int.tdiv (bitOr .u64 (bitShl .u64 p_hi (IntKind.wrap .u64 r1)) (bitShr .u64 p_lo (IntKind.wrap .u64 (64 - (IntKind.wrap .u64 r1))))) (bitShr .u64 (bitShl .u64 p_y (IntKind.wrap .u64 r1)) 32))) - 4294967296).toNat + 2) (IntKind.wrap .u64 (Int.tdiv (bitOr .u64 (bitShl .u64 p_hi (IntKind.wrap .u64 r1)) (bitShr .u64 p_lo (IntKind.wrap .u64 (64 - (IntKind.wrap .u64 r1))))) (bitShr .u64 (bitShl .u64 p_y (IntKind.wrap .u64 r1)) 32))) (IntKind.wrap .u64 ((bitOr .u64 (bitShl .u64 p_hi (IntKind.wrap .u64 r1)) (bitShr .u64 p_lo (IntKind.wrap .u64 (64 - (IntKind.wrap .u64 r1))))) - (IntKind.wrap .u64 ((IntKind.wrap .u64 (Int.tdiv (bitOr .u64 (bitShl .u64 p_hi (IntKind.wrap .u64 r1)) (bitShr .u64 p_lo (IntKind.wrap .u64 (64 - (IntKind.wrap .u64 r1))))) (bitShr .u64 (bitShl .u64 p_y (IntKind.wrap .u64 r1)) 32))) * (bitShr .u64 (bitShl .u64 p_y (IntKind.wrap .u64 r1)) 32))))))))))))
def points_byTime (p_base : Int) (p_time : Int) : Option Int :=
  if decide ((IntKind.wrap .u64 ((IntKind.wrap .u64 ((IntKind.wrap .u64 p_time) * (IntKind.wrap .u64 p_time))) * (IntKind.wrap .u64 p_time))) ≤ ((bits_Mul64 (IntKind.wrap .u64 ((IntKind.wrap .u64 ((IntKind.wrap .u64 p_base) * (IntKind.wrap .u64 p_base))) * (IntKind.wrap .u64 p_base))) 1000).1)) then
  some 1000000000
  else
  Option.bind (bits_Div64 ((bits_Mul64 (IntKind.wrap .u64 ((IntKind.wrap .u64 ((IntKind.wrap .u64 p_base) * (IntKind.wrap .u64 p_base))) * (IntKind.wrap .u64 p_base))) 1000).1) ((bits_Mul64 (IntKind.wrap .u64 ((IntKind.wrap .u64 ((IntKind.wrap .u64 p_base) * (IntKind.wrap .u64 p_base))) * (IntKind.wrap .u64 p_base))) 1000).2) (IntKind.wrap .u64 ((IntKind.wrap .u64 ((IntKind.wrap .u64 p_time) * (IntKind.wrap .u64 p_time))) * (IntKind.wrap .u64 p_time)))) (fun r1 =>
  some (W (imin r1.1 1000000000)))
def points_ByTime (p_l : List GBase) (p_race : ByteArray) (p_time : Int) : Option (Int × Int) :=
  Option.bind (points_CheckBase p_l) (fun r1 =>
  if !decide (r1 = 0) then
  some (0, r1)
  else
  if decide ((points_baseOf p_l p_race) = 0) then
  some (0, 8)
  else
  if !(timing_IsTime p_time) then
  some (0, 1)
  else
  Option.bind (points_byTime (points_baseOf p_l p_race) p_time) (fun r2 =>
  some (r2, 0)))
def record_CheckKinds_l2 (y1 : GKind) (j4 : Option Int) : List ByteArray → Nat → Option Int
  | [], _ => j4
  | y2 :: ys2, i2 => Option.bind (words_IsKey y2) (fun r5 =>
  if !r5 then
  some 5
  else
  Join (fun (c3 : Bool) =>
  if c3 then
  some 7
  else
  record_CheckKinds_l2 y1 j4 ys2 (i2 + 1)) (fun j5 =>
  if (decide (0 < (i2 : Int))) then Chk (inB (W ((i2 : Int) - 1)) y1.Clubs.length) (
  j5 ((decide (0 < (i2 : Int))) && (Sless y2 (nth y1.Clubs (W ((i2 : Int) - 1))) || decide (y2 = (nth y1.Clubs (W ((i2 : Int) - 1))))))) else j5 ((decide (0 < (i2 : Int))) && true)))
def record_CheckKinds_l1 (p_l : List GKind) (j1 : Option Int) : List GKind → Nat → Option Int
  | [], _ => j1
  | y1 :: ys1, i1 => Option.bind (words_IsKey y1.Key) (fun r2 =>
  Join (fun (c1 : Bool) =>
  if c1 then
  some 5
  else
  Join (fun (c2 : Bool) =>
  if c2 then
  some 7
  else
  if decide (100 < (y1.Clubs.length : Int)) then
  some 2
  else
  Join (if (((decide (y1.Young < 0)) || (decide (y1.Old < y1.Young))) || (decide (150 < y1.Old))) then
  some 1
  else
  record_CheckKinds_l1 p_l j1 ys1 (i1 + 1)) (fun j4 =>
  record_CheckKinds_l2 y1 j4 y1.Clubs 0)) (fun j3 =>
  if (decide (0 < (i1 : Int))) then Chk (inB (W ((i1 : Int) - 1)) p_l.length) (
  j3 ((decide (0 < (i1 : Int))) && (Sless y1.Key ((nth p_l (W ((i1 : Int) - 1))).Key) || decide (y1.Key = ((nth p_l (W ((i1 : Int) - 1))).Key))))) else j3 ((decide (0 < (i1 : Int))) && true))) (fun j2 =>
  if (!r2) then j2 ((!r2) || true) else Option.bind (words_IsKey y1.Race) (fun r3 =>
  j2 ((!r2) || (!r3)))))
def record_CheckKinds (p_l : List GKind) : Option Int :=
  if decide (50 < (p_l.length : Int)) then
  some 2
  else
  Join (some 0) (fun j1 =>
  record_CheckKinds_l1 p_l j1 p_l 0)
def record_checkStep (p_x : GStep) : Option Int :=
  Join (some 0) (fun j1 =>
  if !(words_IsMoment p_x.At) then
  some 1
  else
  if !(words_Within p_x.Kind 1 3) then
  some 4
  else
  Option.bind (words_IsKey p_x.Id) (fun r1 =>
  if !r1 then
  some 5
  else
  Join (j1) (fun j2 =>
  if !decide (p_x.Kind = 1) then
  if !decide (p_x = (GStep.mk p_x.At p_x.Kind p_x.Id k_empty k_empty k_empty 0 0)) then
  some 3
  else
  j2
  else
  Option.bind (words_IsKey p_x.Who) (fun r2 =>
  Join (fun (c1 : Bool) =>
  Join (fun (c2 : Bool) =>
  if c2 then
  some 5
  else
  if ((!(words_Within p_x.Age 0 150)) || (!(timing_IsTime p_x.Time))) then
  some 1
  else
  j2) (fun j4 =>
  if c1 then j4 (c1 || true) else Join (fun (c3 : Bool) =>
  j4 (c1 || c3)) (fun j5 =>
  if (!decide (p_x.Club = k_empty)) then Option.bind (words_IsKey p_x.Club) (fun r4 =>
  j5 ((!decide (p_x.Club = k_empty)) && (!r4))) else j5 ((!decide (p_x.Club = k_empty)) && true)))) (fun j3 =>
  if (!r2) then j3 ((!r2) || true) else Option.bind (words_IsKey p_x.Race) (fun r3 =>
  j3 ((!r2) || (!r3))))))))
def record_checkSwum (p_s : GStep) : Option Int :=
  Option.bind (record_checkStep p_s) (fun r1 =>
  if !decide (r1 = 0) then
  some r1
  else
  if !decide (p_s.Kind = 1) then
  some 4
  else
  some 0)
def record_isFor (p_k : GKind) (p_s : GStep) : Bool :=
  (((decide (p_s.Race = p_k.Race)) && ((decide ((p_k.Clubs.length : Int) = 0)) || (slices_Contains_string p_k.Clubs p_s.Club))) && (words_Within p_s.Age p_k.Young p_k.Old))
def record_For_l1 (p_s : GStep) (j1 : (List ByteArray) → Option ((List ByteArray) × Int)) : List GKind → Nat → (List ByteArray) → Option ((List ByteArray) × Int)
  | [], _, x1 => j1 x1
  | y1 :: ys1, i1, x1 => Join (fun (x2 : List ByteArray) =>
  record_For_l1 p_s j1 ys1 (i1 + 1) x2) (fun j2 =>
  Join (fun (x3 : List ByteArray) =>
  j2 x3) (fun j3 =>
  if (record_isFor y1 p_s) then
  Chk (room x1.length) (
  j3 (x1 ++ [y1.Key]))
  else
  j3 x1))
def record_For (p_l : List GKind) (p_s : GStep) : Option ((List ByteArray) × Int) :=
  Option.bind (record_CheckKinds p_l) (fun r1 =>
  if !decide (r1 = 0) then
  some (([] : List ByteArray), r1)
  else
  Option.bind (record_checkSwum p_s) (fun r2 =>
  if !decide (r2 = 0) then
  some (([] : List ByteArray), r2)
  else
  Join (fun (x1 : List ByteArray) =>
  some (x1, 0)) (fun j1 =>
  record_For_l1 p_s j1 p_l 0 ([] : List ByteArray))))
def tumbkeep2_ready : Option Bool :=
  Option.bind (swimmer_DayOf (GDate.mk 2024 3 1)) (fun r1 =>
  Option.bind (session_Ends [(GItem.mk k_a 2 10 5 0)] 0) (fun r2 =>
  Option.bind (points_ByTime [(GBase.mk k_r 3000)] k_r 6000) (fun r3 =>
  Option.bind (record_For ([(GKind.mk k_k k_r ([] : List ByteArray) 0 9)] : List GKind) (GStep.mk 0 1 k_i k_a k_empty k_r 0 5)) (fun r4 =>
  some (((((decide ((tumbkeep2_errs [r1.2, r2.2, r3.2, r4.2]) = 0)) && (decide (r1.1 = 60))) && (decide (r2.1 = 25))) && (decide (r3.1 = 125))) && (decide ((r4.1.length : Int) = 1)))))))
def tumbkeep2_LeadersCanWin_l1 (r4 : (List Int) × Int) (r9 : (List ByteArray) × Int) (r8 : (List ByteArray) × Int) (j1 : Option Bool) : List GGiven → Nat → Option Bool
  | [], _ => j1
  | y1 :: ys1, i1 => Join (fun (x1 : Bool) =>
  if x1 then
  some false
  else
  tumbkeep2_LeadersCanWin_l1 r4 r9 r8 j1 ys1 (i1 + 1)) (fun j2 =>
  Chk (inB (i1 : Int) r4.1.length) (
  if !decide ((decide ((nth r4.1 (i1 : Int)) = 1)) = (slices_Contains_string r9.1 y1.Key)) then
  j2 true
  else
  Chk (inB (i1 : Int) r4.1.length) (
  if decide ((nth r4.1 (i1 : Int)) = 1) then
  j2 (!(slices_Contains_string r8.1 y1.Key))
  else
  Chk (inB (i1 : Int) r4.1.length) (
  j2 false))))
def tumbkeep2_LeadersCanWin (p_l : List Int) : Option Bool :=
  Option.bind (Stream_RightTable p_l 0) (fun r1 =>
  Option.bind (Stream_RightScored p_l r1.2) (fun r2 =>
  Option.bind (points_Clubs r1.1 r2.1) (fun r3 =>
  Option.bind (points_Ranks r3.1) (fun r4 =>
  Option.bind (Stream_Range p_l r2.2 0 3) (fun r5 =>
  Option.bind (Stream_Range p_l r5.2 0 3) (fun r6 =>
  Option.bind (Stream_Range p_l r6.2 0 3) (fun r7 =>
  Option.bind (points_CanWin r1.1 r2.1 r5.1 r6.1 r7.1) (fun r8 =>
  Option.bind (points_CanWin r1.1 r2.1 0 0 0) (fun r9 =>
  if ((!decide ((tumbkeep2_errs [r3.2, r4.2, r8.2, r9.2]) = 0)) || (!decide ((r4.1.length : Int) = (r3.1.length : Int)))) then
  some false
  else
  Join (Option.bind (tumbkeep2_ready) (fun r10 =>
  some r10)) (fun j1 =>
  tumbkeep2_LeadersCanWin_l1 r4 r9 r8 j1 r3.1 0))))))))))
/-- The loops' equations are made here, once. -/
theorem twin_eqs : True := by
  have h := @Stream_RightTable_l1.eq_def; clear h; have h := @Stream_RightTable_l1.eq_1; clear h; have h := @Stream_RightTable_l1.eq_2; clear h
  have h := @slices_insertionSortCmpFunc_Scored_tumbref2_ScoredOrder_l2.eq_def; clear h; have h := @slices_insertionSortCmpFunc_Scored_tumbref2_ScoredOrder_l2.eq_1; clear h; have h := @slices_insertionSortCmpFunc_Scored_tumbref2_ScoredOrder_l2.eq_2; clear h
  have h := @slices_insertionSortCmpFunc_Scored_tumbref2_ScoredOrder_l1.eq_def; clear h; have h := @slices_insertionSortCmpFunc_Scored_tumbref2_ScoredOrder_l1.eq_1; clear h; have h := @slices_insertionSortCmpFunc_Scored_tumbref2_ScoredOrder_l1.eq_2; clear h
  have h := @slices_pdqsortCmpFunc_Scored_tumbref2_ScoredOrder_l1.eq_def; clear h; have h := @slices_pdqsortCmpFunc_Scored_tumbref2_ScoredOrder_l1.eq_1; clear h; have h := @slices_pdqsortCmpFunc_Scored_tumbref2_ScoredOrder_l1.eq_2; clear h
  have h := @Stream_RightScored_l2.eq_def; clear h; have h := @Stream_RightScored_l2.eq_1; clear h; have h := @Stream_RightScored_l2.eq_2; clear h
  have h := @Stream_RightScored_l4.eq_def; clear h; have h := @Stream_RightScored_l4.eq_1; clear h; have h := @Stream_RightScored_l4.eq_2; clear h
  have h := @Stream_RightScored_l3.eq_def; clear h; have h := @Stream_RightScored_l3.eq_1; clear h; have h := @Stream_RightScored_l3.eq_2; clear h
  have h := @Stream_RightScored_l5.eq_def; clear h; have h := @Stream_RightScored_l5.eq_1; clear h; have h := @Stream_RightScored_l5.eq_2; clear h
  have h := @Stream_RightScored_l1.eq_def; clear h; have h := @Stream_RightScored_l1.eq_1; clear h; have h := @Stream_RightScored_l1.eq_2; clear h
  have h := @points_CheckTable_l1.eq_def; clear h; have h := @points_CheckTable_l1.eq_1; clear h; have h := @points_CheckTable_l1.eq_2; clear h
  have h := @cmp_Or_int_l1.eq_def; clear h; have h := @cmp_Or_int_l1.eq_1; clear h; have h := @cmp_Or_int_l1.eq_2; clear h
  have h := @points_races_l2.eq_def; clear h; have h := @points_races_l2.eq_1; clear h; have h := @points_races_l2.eq_2; clear h
  have h := @points_races_l1.eq_def; clear h; have h := @points_races_l1.eq_1; clear h; have h := @points_races_l1.eq_2; clear h
  have h := @slices_IndexFunc_Scored_points_checkAll_c1_l1.eq_def; clear h; have h := @slices_IndexFunc_Scored_points_checkAll_c1_l1.eq_1; clear h; have h := @slices_IndexFunc_Scored_points_checkAll_c1_l1.eq_2; clear h
  have h := @points_checkAll_l1.eq_def; clear h; have h := @points_checkAll_l1.eq_1; clear h; have h := @points_checkAll_l1.eq_2; clear h
  have h := @points_checkAll_l2.eq_def; clear h; have h := @points_checkAll_l2.eq_1; clear h; have h := @points_checkAll_l2.eq_2; clear h
  have h := @points_checkAll_l4.eq_def; clear h; have h := @points_checkAll_l4.eq_1; clear h; have h := @points_checkAll_l4.eq_2; clear h
  have h := @points_checkAll_l3.eq_def; clear h; have h := @points_checkAll_l3.eq_1; clear h; have h := @points_checkAll_l3.eq_2; clear h
  have h := @points_checkAll_l6.eq_def; clear h; have h := @points_checkAll_l6.eq_1; clear h; have h := @points_checkAll_l6.eq_2; clear h
  have h := @points_checkAll_l5.eq_def; clear h; have h := @points_checkAll_l5.eq_1; clear h; have h := @points_checkAll_l5.eq_2; clear h
  have h := @points_CheckScored_l1.eq_def; clear h; have h := @points_CheckScored_l1.eq_1; clear h; have h := @points_CheckScored_l1.eq_2; clear h
  have h := @words_Fraction_l1.eq_def; clear h; have h := @words_Fraction_l1.eq_1; clear h; have h := @words_Fraction_l1.eq_2; clear h
  have h := @points_race_l1.eq_def; clear h; have h := @points_race_l1.eq_1; clear h; have h := @points_race_l1.eq_2; clear h
  have h := @points_race_l3.eq_def; clear h; have h := @points_race_l3.eq_1; clear h; have h := @points_race_l3.eq_2; clear h
  have h := @points_race_l4.eq_def; clear h; have h := @points_race_l4.eq_1; clear h; have h := @points_race_l4.eq_2; clear h
  have h := @points_race_l2.eq_def; clear h; have h := @points_race_l2.eq_1; clear h; have h := @points_race_l2.eq_2; clear h
  have h := @points_rows_l1.eq_def; clear h; have h := @points_rows_l1.eq_1; clear h; have h := @points_rows_l1.eq_2; clear h
  have h := @points_clubs_l1.eq_def; clear h; have h := @points_clubs_l1.eq_1; clear h; have h := @points_clubs_l1.eq_2; clear h
  have h := @points_clubs_l2.eq_def; clear h; have h := @points_clubs_l2.eq_1; clear h; have h := @points_clubs_l2.eq_2; clear h
  have h := @slices_insertionSortCmpFunc_Given_points_sums_c1_l2.eq_def; clear h; have h := @slices_insertionSortCmpFunc_Given_points_sums_c1_l2.eq_1; clear h; have h := @slices_insertionSortCmpFunc_Given_points_sums_c1_l2.eq_2; clear h
  have h := @slices_insertionSortCmpFunc_Given_points_sums_c1_l1.eq_def; clear h; have h := @slices_insertionSortCmpFunc_Given_points_sums_c1_l1.eq_1; clear h; have h := @slices_insertionSortCmpFunc_Given_points_sums_c1_l1.eq_2; clear h
  have h := @slices_pdqsortCmpFunc_Given_points_sums_c1_l1.eq_def; clear h; have h := @slices_pdqsortCmpFunc_Given_points_sums_c1_l1.eq_1; clear h; have h := @slices_pdqsortCmpFunc_Given_points_sums_c1_l1.eq_2; clear h
  have h := @points_sums_l1.eq_def; clear h; have h := @points_sums_l1.eq_1; clear h; have h := @points_sums_l1.eq_2; clear h
  have h := @points_Ranks_l1.eq_def; clear h; have h := @points_Ranks_l1.eq_1; clear h; have h := @points_Ranks_l1.eq_2; clear h
  have h := @points_Ranks_l3.eq_def; clear h; have h := @points_Ranks_l3.eq_1; clear h; have h := @points_Ranks_l3.eq_2; clear h
  have h := @points_Ranks_l2.eq_def; clear h; have h := @points_Ranks_l2.eq_1; clear h; have h := @points_Ranks_l2.eq_2; clear h
  have h := @points_left_l1.eq_def; clear h; have h := @points_left_l1.eq_1; clear h; have h := @points_left_l1.eq_2; clear h
  have h := @slices_IndexFunc_Given_points_CanWin_c1_l1.eq_def; clear h; have h := @slices_IndexFunc_Given_points_CanWin_c1_l1.eq_1; clear h; have h := @slices_IndexFunc_Given_points_CanWin_c1_l1.eq_2; clear h
  have h := @points_CanWin_l1.eq_def; clear h; have h := @points_CanWin_l1.eq_1; clear h; have h := @points_CanWin_l1.eq_2; clear h
  have h := @tumbkeep2_errs_l1.eq_def; clear h; have h := @tumbkeep2_errs_l1.eq_1; clear h; have h := @tumbkeep2_errs_l1.eq_2; clear h
  have h := @slices_Index_string_l1.eq_def; clear h; have h := @slices_Index_string_l1.eq_1; clear h; have h := @slices_Index_string_l1.eq_2; clear h
  have h := @swimmer_DayOf_l1.eq_def; clear h; have h := @swimmer_DayOf_l1.eq_1; clear h; have h := @swimmer_DayOf_l1.eq_2; clear h
  have h := @swimmer_DayOf_l2.eq_def; clear h; have h := @swimmer_DayOf_l2.eq_1; clear h; have h := @swimmer_DayOf_l2.eq_2; clear h
  have h := @swimmer_DayOf_l3.eq_def; clear h; have h := @swimmer_DayOf_l3.eq_1; clear h; have h := @swimmer_DayOf_l3.eq_2; clear h
  have h := @session_CheckItems_l1.eq_def; clear h; have h := @session_CheckItems_l1.eq_1; clear h; have h := @session_CheckItems_l1.eq_2; clear h
  have h := @session_timetable_l2.eq_def; clear h; have h := @session_timetable_l2.eq_1; clear h; have h := @session_timetable_l2.eq_2; clear h
  have h := @session_timetable_l1.eq_def; clear h; have h := @session_timetable_l1.eq_1; clear h; have h := @session_timetable_l1.eq_2; clear h
  have h := @points_CheckBase_l1.eq_def; clear h; have h := @points_CheckBase_l1.eq_1; clear h; have h := @points_CheckBase_l1.eq_2; clear h
  have h := @points_baseOf_l1.eq_def; clear h; have h := @points_baseOf_l1.eq_1; clear h; have h := @points_baseOf_l1.eq_2; clear h
  have h := @bits_Div64_l1.eq_def; clear h; have h := @bits_Div64_l1.eq_1; clear h; have h := @bits_Div64_l1.eq_2; clear h
  have h := @bits_Div64_l2.eq_def; clear h; have h := @bits_Div64_l2.eq_1; clear h; have h := @bits_Div64_l2.eq_2; clear h
  have h := @record_CheckKinds_l2.eq_def; clear h; have h := @record_CheckKinds_l2.eq_1; clear h; have h := @record_CheckKinds_l2.eq_2; clear h
  have h := @record_CheckKinds_l1.eq_def; clear h; have h := @record_CheckKinds_l1.eq_1; clear h; have h := @record_CheckKinds_l1.eq_2; clear h
  have h := @record_For_l1.eq_def; clear h; have h := @record_For_l1.eq_1; clear h; have h := @record_For_l1.eq_2; clear h
  have h := @tumbkeep2_LeadersCanWin_l1.eq_def; clear h; have h := @tumbkeep2_LeadersCanWin_l1.eq_1; clear h; have h := @tumbkeep2_LeadersCanWin_l1.eq_2; clear h
  trivial
end
end Go.Proofs.YteppmbaanjlmmaaGreatDoor
