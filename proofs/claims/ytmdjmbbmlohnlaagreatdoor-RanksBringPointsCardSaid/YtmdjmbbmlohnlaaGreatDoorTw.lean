/- The Go functions as plain Lean functions, by program. -/
import Derived.Test.YtmdjmbbmlohnlaaGreatDoorBase
namespace Go.Proofs.YtmdjmbbmlohnlaaGreatDoor
open Go
noncomputable section
structure Gtumbmake_Stream where
  L : List Int
  at_ : Int
  deriving DecidableEq, Inhabited
structure GTable where
  Points : List Int
  Relay : Int
  Most : Int
  deriving DecidableEq, Inhabited
structure GScored where
  Race : ByteArray
  Who : ByteArray
  Club : ByteArray
  Rank : Int
  Relay : Bool
  deriving DecidableEq, Inhabited
structure Gpoints_entry where
  race_ : ByteArray
  who_ : ByteArray
  deriving DecidableEq, Inhabited
structure GFraction where
  Num : Int
  Den : Int
  deriving DecidableEq, Inhabited
structure GGiven where
  Key : ByteArray
  Points : GFraction
  deriving DecidableEq, Inhabited
structure Gpoints_row where
  x_ : GScored
  points_ : GFraction
  deriving DecidableEq, Inhabited
structure Gno_is_e where
  is_ : Bool
  e_ : Int
  deriving DecidableEq, Inhabited
structure GBase where
  Race : ByteArray
  Time : Int
  deriving DecidableEq, Inhabited
def k_empty : ByteArray := ⟨#[]⟩
def k_ra : ByteArray := ⟨#[114, 97]⟩
def k_rb : ByteArray := ⟨#[114, 98]⟩
def k_rc : ByteArray := ⟨#[114, 99]⟩
def k_ann : ByteArray := ⟨#[97, 110, 110]⟩
def k_bea : ByteArray := ⟨#[98, 101, 97]⟩
def k_cid : ByteArray := ⟨#[99, 105, 100]⟩
def k_dan : ByteArray := ⟨#[100, 97, 110]⟩
def k_eve : ByteArray := ⟨#[101, 118, 101]⟩
def k_blue : ByteArray := ⟨#[98, 108, 117, 101]⟩
def k_red : ByteArray := ⟨#[114, 101, 100]⟩
def k_grey : ByteArray := ⟨#[103, 114, 101, 121]⟩
def k__00_01_02_02_h633d86 : ByteArray := ⟨#[0, 1, 2, 2, 3, 3, 3, 3, 4, 4, 4, 4, 4, 4, 4, 4, 5, 5, 5, 5, 5, 5, 5, 5, 5, 5, 5, 5, 5, 5, 5, 5, 6, 6, 6, 6, 6, 6, 6, 6, 6, 6, 6, 6, 6, 6, 6, 6, 6, 6, 6, 6, 6, 6, 6, 6, 6, 6, 6, 6, 6, 6, 6, 6, 7, 7, 7, 7, 7, 7, 7, 7, 7, 7, 7, 7, 7, 7, 7, 7, 7, 7, 7, 7, 7, 7, 7, 7, 7, 7, 7, 7, 7, 7, 7, 7, 7, 7, 7, 7, 7, 7, 7, 7, 7, 7, 7, 7, 7, 7, 7, 7, 7, 7, 7, 7, 7, 7, 7, 7, 7, 7, 7, 7, 7, 7, 7, 7, 8, 8, 8, 8, 8, 8, 8, 8, 8, 8, 8, 8, 8, 8, 8, 8, 8, 8, 8, 8, 8, 8, 8, 8, 8, 8, 8, 8, 8, 8, 8, 8, 8, 8, 8, 8, 8, 8, 8, 8, 8, 8, 8, 8, 8, 8, 8, 8, 8, 8, 8, 8, 8, 8, 8, 8, 8, 8, 8, 8, 8, 8, 8, 8, 8, 8, 8, 8, 8, 8, 8, 8, 8, 8, 8, 8, 8, 8, 8, 8, 8, 8, 8, 8, 8, 8, 8, 8, 8, 8, 8, 8, 8, 8, 8, 8, 8, 8, 8, 8, 8, 8, 8, 8, 8, 8, 8, 8, 8, 8, 8, 8, 8, 8, 8, 8, 8, 8, 8, 8, 8, 8, 8, 8, 8, 8, 8, 8]⟩
def k_A : ByteArray := ⟨#[65]⟩
def k_abcdefghijkl_h0e2e2c : ByteArray := ⟨#[97, 98, 99, 100, 101, 102, 103, 104, 105, 106, 107, 108, 109, 110, 111, 112, 113, 114, 115, 116, 117, 118, 119, 120, 121, 122, 48, 49, 50, 51, 52, 53, 54, 55, 56, 57, 45, 95]⟩
def k__20 : ByteArray := ⟨#[32]⟩
def k_abcdefghijklmnopqrstuvwxyz : ByteArray := ⟨#[97, 98, 99, 100, 101, 102, 103, 104, 105, 106, 107, 108, 109, 110, 111, 112, 113, 114, 115, 116, 117, 118, 119, 120, 121, 122]⟩
def k_r : ByteArray := ⟨#[114]⟩
def tumbmake_Below (p_x : Int) (p_n : Int) : Option Int :=
  if decide (p_n < 1) then
  some 0
  else
  Chk (!decide (p_n = 0)) (
  Join (fun (x1 : Int) =>
  some x1) (fun j1 =>
  if decide ((Int.tmod p_x p_n) < 0) then
  j1 (W ((Int.tmod p_x p_n) + p_n))
  else
  j1 (Int.tmod p_x p_n)))
def Stream_Next (p_s_L : List Int) (p_s_at : Int) (p_n : Int) : Option (Int × Int) :=
  if decide ((p_s_L.length : Int) = 0) then
  Option.bind (tumbmake_Below (W ((W (p_s_at + 1)) * 7919)) p_n) (fun r1 =>
  some (r1, W (p_s_at + 1)))
  else
  Chk (!decide ((p_s_L.length : Int) = 0)) (
  Chk (!decide ((p_s_L.length : Int) = 0)) (
  Chk (inB (Int.tmod (W ((W (p_s_at + 1)) - 1)) (p_s_L.length : Int)) p_s_L.length) (
  Option.bind (tumbmake_Below (nth p_s_L (Int.tmod (W ((W (p_s_at + 1)) - 1)) (p_s_L.length : Int))) 1073741824) (fun r2 =>
  Option.bind (tumbmake_Below (W (r2 + (W ((W (Int.tdiv (W ((W (p_s_at + 1)) - 1)) (p_s_L.length : Int))) * (W (7919 + (Int.tmod (W ((W (p_s_at + 1)) - 1)) (p_s_L.length : Int)))))))) p_n) (fun r3 =>
  some (r3, W (p_s_at + 1)))))))
def Stream_Pick (p_s_L : List Int) (p_s_at : Int) (p_l : List Int) : Option (Int × Int) :=
  Option.bind (Stream_Next p_s_L p_s_at (p_l.length : Int)) (fun r1 =>
  Chk (inB r1.1 p_l.length) (
  some ((nth p_l r1.1), r1.2)))
def Stream_Range (p_s_L : List Int) (p_s_at : Int) (p_low : Int) (p_high : Int) : Option (Int × Int) :=
  if decide (p_high < p_low) then
  some (p_low, p_s_at)
  else
  Option.bind (Stream_Next p_s_L p_s_at (W ((W (p_high - p_low)) + 1))) (fun r1 =>
  some (W (p_low + r1.1), r1.2))
def Stream_RightTable_l1 (r4 : Int × Int) (p_s_L : List Int) (j1 : (List Int) → Int → Option (GTable × Int)) : Nat → (List Int) → Int → Int → Int → Option (GTable × Int)
  | 0, _, _, _, _ => none
  | m1 + 1, x1, x2, x3, x4 => if decide (x4 < r4.1) then
  Chk (room x1.length) (
  Option.bind (Stream_Pick p_s_L x2 [0, 1, 2, 3]) (fun r5 =>
  Stream_RightTable_l1 r4 p_s_L j1 m1 (x1 ++ [x3]) r5.2 (imax 0 (W (x3 - r5.1))) (W (x4 + 1))))
  else
  j1 x1 x2
def Stream_RightTable (p_s_L : List Int) (p_s_at : Int) : Option (GTable × Int) :=
  Option.bind (Stream_Pick p_s_L p_s_at [1, 2]) (fun r1 =>
  Option.bind (Stream_Pick p_s_L r1.2 [0, 0, 1, 2]) (fun r2 =>
  Option.bind (Stream_Pick p_s_L r2.2 [10, 9, 7, 5]) (fun r3 =>
  Option.bind (Stream_Range p_s_L r3.2 0 5) (fun r4 =>
  Join (fun (x1 : List Int) (x2 : Int) =>
  some ((GTable.mk x1 r1.1 r2.1), x2)) (fun j1 =>
  Stream_RightTable_l1 r4 p_s_L j1 ((r4.1 - 0).toNat + 2) ([] : List Int) r4.2 r3.1 0)))))
def Stream_Flip (p_s_L : List Int) (p_s_at : Int) (p_n : Int) : Option (Bool × Int) :=
  Option.bind (Stream_Next p_s_L p_s_at p_n) (fun r1 =>
  some (decide (r1.1 = 0), r1.2))
def Stream_Odd (p_s_L : List Int) (p_s_at : Int) (p_low : Int) (p_high : Int) : Option (Int × Int) :=
  Option.bind (Stream_Flip p_s_L p_s_at 12) (fun r1 =>
  if r1.1 then
  Option.bind (Stream_Pick p_s_L r1.2 [W (p_low - 1), W (p_high + 1), p_low, p_high, (-1099511627776), 1099511627776]) (fun r2 =>
  some (r2.1, r2.2))
  else
  Option.bind (Stream_Range p_s_L r1.2 p_low p_high) (fun r3 =>
  some (r3.1, r3.2)))
def slices_Clone_int (p_s : List Int) : Option (List Int) :=
  Chk (decide ((([] : List Int) : List Int).length + p_s.length < 1073741824)) (
  some ((([] : List Int) : List Int) ++ p_s))
def Stream_Table (p_s_L : List Int) (p_s_at : Int) : Option (GTable × Int) :=
  Option.bind (Stream_RightTable p_s_L p_s_at) (fun r1 =>
  Option.bind (Stream_Flip p_s_L r1.2 12) (fun r2 =>
  Join (fun (x1 : List Int) (x2 : Int) (x3 : Int) (x4 : Int) =>
  some ((GTable.mk x1 x2 x3), x4)) (fun j1 =>
  if r2.1 then
  Option.bind (Stream_Odd p_s_L r2.2 1 10) (fun r3 =>
  Option.bind (Stream_Odd p_s_L r3.2 0 10) (fun r4 =>
  Option.bind (slices_Clone_int r1.1.Points) (fun r5 =>
  Option.bind (Stream_Odd p_s_L r4.2 0 20) (fun r6 =>
  Chk (room r5.length) (
  j1 (r5 ++ [r6.1]) r3.1 r4.1 r6.2)))))
  else
  j1 r1.1.Points r1.1.Relay r1.1.Most r2.2)))
def Stream_Some (p_s_L : List Int) (p_s_at : Int) (p_l : List ByteArray) : Option (ByteArray × Int) :=
  Option.bind (Stream_Next p_s_L p_s_at (p_l.length : Int)) (fun r1 =>
  Chk (inB r1.1 p_l.length) (
  some ((nth p_l r1.1), r1.2)))
def bits_Len32 (p_x : Int) : Option Int :=
  Join (fun (x1 : Int) (x2 : Int) =>
  Join (fun (x3 : Int) (x4 : Int) =>
  Chk (inB (IntKind.wrap .u8 x3) k__00_01_02_02_h633d86.size) (
  some (W (x4 + (W (sbyte k__00_01_02_02_h633d86 (IntKind.wrap .u8 x3))))))) (fun j2 =>
  if decide (256 ≤ x1) then
  j2 (bitShr .u32 x1 8) (W (x2 + 8))
  else
  j2 x1 x2)) (fun j1 =>
  if decide (65536 ≤ p_x) then
  j1 (bitShr .u32 p_x 16) 16
  else
  j1 p_x 0)
def bits_Len64 (p_x : Int) : Option Int :=
  Join (fun (x1 : Int) (x2 : Int) =>
  Join (fun (x3 : Int) (x4 : Int) =>
  Join (fun (x5 : Int) (x6 : Int) =>
  Chk (inB (IntKind.wrap .u8 x5) k__00_01_02_02_h633d86.size) (
  some (W (x6 + (W (sbyte k__00_01_02_02_h633d86 (IntKind.wrap .u8 x5))))))) (fun j3 =>
  if decide (256 ≤ x3) then
  j3 (bitShr .u64 x3 8) (W (x4 + 8))
  else
  j3 x3 x4)) (fun j2 =>
  if decide (65536 ≤ x1) then
  j2 (bitShr .u64 x1 16) (W (x2 + 16))
  else
  j2 x1 x2)) (fun j1 =>
  if decide (4294967296 ≤ p_x) then
  j1 (bitShr .u64 p_x 32) 32
  else
  j1 p_x 0)
def bits_Len (p_x : Int) : Option Int :=
  if false then
  Option.bind (bits_Len32 (IntKind.wrap .u32 p_x)) (fun r1 =>
  some r1)
  else
  Option.bind (bits_Len64 p_x) (fun r2 =>
  some r2)
def strings_Compare (s t : ByteArray) : Int := Lib.compareBytes s.data.toList t.data.toList
def tumbref2_ScoredOrder_c1 (p_s : GScored) : Int :=
  if decide (p_s.Rank = 0) then
  301
  else
  p_s.Rank
def tumbref2_sign (p_n : Int) : Int :=
  if decide (p_n < 0) then
  (-1)
  else
  if decide (0 < p_n) then
  1
  else
  0
def tumbref2_ScoredOrder (p_a : GScored) (p_b : GScored) : Int :=
  if !decide (p_a.Race = p_b.Race) then
  (strings_Compare p_a.Race p_b.Race)
  else
  if !decide ((tumbref2_ScoredOrder_c1 p_a) = (tumbref2_ScoredOrder_c1 p_b)) then
  (tumbref2_sign (W ((tumbref2_ScoredOrder_c1 p_a) - (tumbref2_ScoredOrder_c1 p_b))))
  else
  (strings_Compare p_a.Who p_b.Who)
def slices_insertionSortCmpFunc_Scored_tumbref2_ScoredOrder_l2 (p_a : Int) (j2 : (List GScored) → Option (List GScored)) : Nat → (List GScored) → Int → Option (List GScored)
  | 0, _, _ => none
  | m2 + 1, x3, x4 => Join (fun (x5 : Bool) =>
  if x5 then
  Chk (inB (W (x4 - 1)) x3.length) (
  Chk (inB x4 x3.length) (
  Chk (inB x4 x3.length) (
  Chk (inB (W (x4 - 1)) (x3.set x4.toNat (nth x3 (W (x4 - 1)))).length) (
  slices_insertionSortCmpFunc_Scored_tumbref2_ScoredOrder_l2 p_a j2 m2 ((x3.set x4.toNat (nth x3 (W (x4 - 1)))).set ((W (x4 - 1)).toNat) (nth x3 x4)) (W (x4 - 1))))))
  else
  j2 x3) (fun j3 =>
  if decide (p_a < x4) then
  Chk (inB x4 x3.length) (
  Chk (inB (W (x4 - 1)) x3.length) (
  j3 (decide ((tumbref2_ScoredOrder (nth x3 x4) (nth x3 (W (x4 - 1)))) < 0))))
  else
  j3 false)
def slices_insertionSortCmpFunc_Scored_tumbref2_ScoredOrder_l1 (p_b : Int) (p_a : Int) (j1 : (List GScored) → Option (List GScored)) : Nat → (List GScored) → Int → Option (List GScored)
  | 0, _, _ => none
  | m1 + 1, x1, x2 => if decide (x2 < p_b) then
  Join (fun (x3 : List GScored) =>
  slices_insertionSortCmpFunc_Scored_tumbref2_ScoredOrder_l1 p_b p_a j1 m1 x3 (W (x2 + 1))) (fun j2 =>
  slices_insertionSortCmpFunc_Scored_tumbref2_ScoredOrder_l2 p_a j2 ((x2 - p_a).toNat + 2) x1 x2)
  else
  j1 x1
def slices_insertionSortCmpFunc_Scored_tumbref2_ScoredOrder (p_data : List GScored) (p_a : Int) (p_b : Int) : Option (List GScored) :=
  Join (fun (x1 : List GScored) =>
  some x1) (fun j1 =>
  slices_insertionSortCmpFunc_Scored_tumbref2_ScoredOrder_l1 p_b p_a j1 ((p_b - (W (p_a + 1))).toNat + 2) p_data (W (p_a + 1)))
def slices_pdqsortCmpFunc_Scored_tumbref2_ScoredOrder_l1 (p_data : List GScored) : Nat → Int → Int → Int → Bool → Option (List GScored)
  | 0, _, _, _, _ => none
  | _ + 1, x1, x2, x3, x4 => if decide ((W (x2 - x1)) ≤ 12) then
  Option.bind (slices_insertionSortCmpFunc_Scored_tumbref2_ScoredOrder p_data x1 x2) (fun r1 =>
  some r1)
  else
  if decide (x3 = 0) then
  none
  else
  if !x4 then
  none
  else
  none
def slices_pdqsortCmpFunc_Scored_tumbref2_ScoredOrder (p_data : List GScored) (p_a : Int) (p_b : Int) (p_limit : Int) : Option (List GScored) :=
  slices_pdqsortCmpFunc_Scored_tumbref2_ScoredOrder_l1 p_data 4611686018427387904 p_a p_b p_limit true
def slices_SortFunc_Scored_tumbref2_ScoredOrder (p_x : List GScored) : Option (List GScored) :=
  Option.bind (bits_Len (IntKind.wrap .u64 (p_x.length : Int))) (fun r1 =>
  Option.bind (slices_pdqsortCmpFunc_Scored_tumbref2_ScoredOrder p_x 0 (p_x.length : Int) r1) (fun r2 =>
  some r2))
def Stream_RightScored_l2 (p_s_L : List Int) (y1 : ByteArray) (r1 : Bool × Int) (j2 : (List GScored) → Int → Option ((List GScored) × Int)) : List ByteArray → Nat → (List GScored) → Int → Option ((List GScored) × Int)
  | [], _, x3, x4 => j2 x3 x4
  | y2 :: ys2, i2, x3, x4 => Join (fun (x5 : List GScored) (x6 : Int) =>
  Stream_RightScored_l2 p_s_L y1 r1 j2 ys2 (i2 + 1) x5 x6) (fun j3 =>
  Option.bind (Stream_Flip p_s_L x4 4) (fun r2 =>
  Join (fun (x7 : List GScored) (x8 : Int) =>
  j3 x7 x8) (fun j4 =>
  if !r2.1 then
  Option.bind (Stream_Some p_s_L r2.2 [k_blue, k_blue, k_red, k_grey, k_empty]) (fun r3 =>
  Option.bind (Stream_Pick p_s_L r3.2 [0, 1, 2, 2, 3, 4]) (fun r4 =>
  Chk (room x3.length) (
  j4 (x3 ++ [(GScored.mk y1 y2 r3.1 r4.1 r1.1)]) r4.2)))
  else
  j4 x3 r2.2)))
def Stream_RightScored_l4 (x9 : List GScored) (i3 : Nat) (j7 : Int → Option ((List GScored) × Int)) : List GScored → Nat → Int → Option ((List GScored) × Int)
  | [], _, x11 => j7 x11
  | y4 :: ys4, i4, x11 => Join (fun (x12 : Int) =>
  Stream_RightScored_l4 x9 i3 j7 ys4 (i4 + 1) x12) (fun j8 =>
  Join (fun (x13 : Int) =>
  j8 x13) (fun j9 =>
  if (((decide (0 < y4.Rank)) && (decide ((Int.tmod y4.Rank 10) < (Int.tmod ((nth x9 (i3 : Int)).Rank) 10)))) && (decide (0 < ((nth x9 (i3 : Int)).Rank)))) then
  j9 (W (x11 + 1))
  else
  j9 x11))
def Stream_RightScored_l3 (j5 : (List GScored) → Option ((List GScored) × Int)) : List GScored → Nat → (List GScored) → Option ((List GScored) × Int)
  | [], _, x9 => j5 x9
  | _ :: ys3, i3, x9 => Join (fun (x10 : List GScored) =>
  Stream_RightScored_l3 j5 ys3 (i3 + 1) x10) (fun j6 =>
  Chk (inB (i3 : Int) x9.length) (
  Join (fun (x11 : Int) =>
  Join (fun (x14 : List GScored) =>
  j6 x14) (fun j10 =>
  if decide (0 < ((nth x9 (i3 : Int)).Rank)) then
  Chk (inB (i3 : Int) x9.length) (
  j10 (x9.set ((i3 : Int).toNat) (GScored.mk ((nth x9 (i3 : Int)).Race) ((nth x9 (i3 : Int)).Who) ((nth x9 (i3 : Int)).Club) (W (((nth x9 (i3 : Int)).Rank) + (W (10 * x11)))) ((nth x9 (i3 : Int)).Relay))))
  else
  j10 x9)) (fun j7 =>
  Stream_RightScored_l4 x9 i3 j7 x9 0 1)))
def Stream_RightScored_l5 (j11 : (List GScored) → Option ((List GScored) × Int)) : List GScored → Nat → (List GScored) → Option ((List GScored) × Int)
  | [], _, x15 => j11 x15
  | _ :: ys5, i5, x15 => Chk (inB (i5 : Int) x15.length) (
  Chk (inB (i5 : Int) x15.length) (
  Stream_RightScored_l5 j11 ys5 (i5 + 1) (x15.set ((i5 : Int).toNat) (GScored.mk ((nth x15 (i5 : Int)).Race) ((nth x15 (i5 : Int)).Who) ((nth x15 (i5 : Int)).Club) (W (Int.tdiv ((nth x15 (i5 : Int)).Rank) 10)) ((nth x15 (i5 : Int)).Relay)))))
def Stream_RightScored_l1 (p_s_L : List Int) (j1 : (List GScored) → Int → Option ((List GScored) × Int)) : List ByteArray → Nat → (List GScored) → Int → Option ((List GScored) × Int)
  | [], _, x1, x2 => j1 x1 x2
  | y1 :: ys1, i1, x1, x2 => Option.bind (Stream_Flip p_s_L x2 3) (fun r1 =>
  Join (fun (x3 : List GScored) (x4 : Int) =>
  Join (fun (x9 : List GScored) =>
  Join (fun (x15 : List GScored) =>
  Option.bind (slices_SortFunc_Scored_tumbref2_ScoredOrder x15) (fun r5 =>
  Chk (decide (x1.length + r5.length < 1073741824)) (
  Stream_RightScored_l1 p_s_L j1 ys1 (i1 + 1) (x1 ++ r5) x4))) (fun j11 =>
  Stream_RightScored_l5 j11 x9 0 x9)) (fun j5 =>
  Stream_RightScored_l3 j5 x3 0 x3)) (fun j2 =>
  Stream_RightScored_l2 p_s_L y1 r1 j2 ([k_ann, k_bea, k_cid, k_dan, k_eve] : List ByteArray) 0 ([] : List GScored) r1.2))
def Stream_RightScored (p_s_L : List Int) (p_s_at : Int) : Option ((List GScored) × Int) :=
  Join (fun (x1 : List GScored) (x2 : Int) =>
  some (x1, x2)) (fun j1 =>
  Stream_RightScored_l1 p_s_L j1 ([k_ra, k_rb, k_rc] : List ByteArray) 0 ([] : List GScored) p_s_at)
def Stream_Scored_l1 (r3 : Int × Int) (p_s_L : List Int) (j2 : (List GScored) → Int → Option ((List GScored) × Int)) : Nat → (List GScored) → Int → Int → Option ((List GScored) × Int)
  | 0, _, _, _ => none
  | m1 + 1, x3, x4, x5 => if decide (x5 < r3.1) then
  Option.bind (Stream_Some p_s_L x4 [k_blue, k_red]) (fun r4 =>
  Chk (room x3.length) (
  Stream_Scored_l1 r3 p_s_L j2 m1 (x3 ++ [(GScored.mk k_ra (Utf8.encode (IntKind.wrap .i32 (W (97 + x5)))) r4.1 1 false)]) r4.2 (W (x5 + 1))))
  else
  j2 x3 x4
def Stream_Scored (p_s_L : List Int) (p_s_at : Int) : Option ((List GScored) × Int) :=
  Option.bind (Stream_RightScored p_s_L p_s_at) (fun r1 =>
  Option.bind (Stream_Flip p_s_L r1.2 20) (fun r2 =>
  Join (fun (x1 : Int) (x2 : List GScored) =>
  Join (fun (x6 : Int) (x7 : Bool) =>
  Join (fun (x8 : List GScored) (x9 : Int) =>
  some (x8, x9)) (fun j4 =>
  if x7 then
  Option.bind (Stream_Next p_s_L x6 (x2.length : Int)) (fun r6 =>
  Chk (inB r6.1 x2.length) (
  Option.bind (Stream_Next p_s_L r6.2 4) (fun r7 =>
  Join (fun (x10 : List GScored) (x11 : Int) =>
  j4 x10 x11) (fun j5 =>
  Join (fun (x12 : List GScored) (x13 : Int) =>
  j5 x12 x13) (fun j6 =>
  if decide (r7.1 = 0) then
  Join (fun (x14 : List GScored) (x15 : Int) =>
  j6 x14 x15) (fun j7 =>
  Option.bind (Stream_Some p_s_L r7.2 [(nth x2 r6.1).Race, k_empty, k_ra]) (fun r8 =>
  Option.bind (Stream_Some p_s_L r8.2 [(nth x2 r6.1).Who, k_A, k_ann]) (fun r9 =>
  j7 ((x2.set r6.1.toNat (GScored.mk r8.1 ((nth x2 r6.1).Who) ((nth x2 r6.1).Club) ((nth x2 r6.1).Rank) ((nth x2 r6.1).Relay))).set r6.1.toNat (GScored.mk r8.1 r9.1 ((nth x2 r6.1).Club) ((nth x2 r6.1).Rank) ((nth x2 r6.1).Relay))) r9.2)))
  else
  Join (fun (x16 : List GScored) (x17 : Int) =>
  j6 x16 x17) (fun j8 =>
  if decide (r7.1 = 1) then
  Option.bind (Stream_Some p_s_L r7.2 [k_blue, k_A]) (fun r10 =>
  j8 (x2.set r6.1.toNat (GScored.mk ((nth x2 r6.1).Race) ((nth x2 r6.1).Who) r10.1 ((nth x2 r6.1).Rank) ((nth x2 r6.1).Relay))) r10.2)
  else
  Join (fun (x18 : List GScored) (x19 : Int) =>
  j8 x18 x19) (fun j9 =>
  if decide (r7.1 = 2) then
  Option.bind (Stream_Odd p_s_L r7.2 0 5) (fun r11 =>
  j9 (x2.set r6.1.toNat (GScored.mk ((nth x2 r6.1).Race) ((nth x2 r6.1).Who) ((nth x2 r6.1).Club) r11.1 ((nth x2 r6.1).Relay))) r11.2)
  else
  j9 (x2.set r6.1.toNat (GScored.mk ((nth x2 r6.1).Race) ((nth x2 r6.1).Who) ((nth x2 r6.1).Club) ((nth x2 r6.1).Rank) (!((nth x2 r6.1).Relay)))) r7.2)))))))
  else
  j4 x2 x6)) (fun j3 =>
  if (decide (0 < (x2.length : Int))) then
  Option.bind (Stream_Flip p_s_L x1 12) (fun r5 =>
  j3 r5.2 r5.1)
  else
  j3 x1 false)) (fun j1 =>
  if r2.1 then
  Option.bind (Stream_Range p_s_L r2.2 9 12) (fun r3 =>
  Join (fun (x3 : List GScored) (x4 : Int) =>
  j1 x4 x3) (fun j2 =>
  Stream_Scored_l1 r3 p_s_L j2 ((r3.1 - 0).toNat + 2) ([] : List GScored) r3.2 0))
  else
  j1 r2.2 r1.1)))
def words_Within (p_n : Int) (p_low : Int) (p_high : Int) : Bool :=
  ((decide (p_low ≤ p_n)) && (decide (p_n ≤ p_high)))
def points_CheckTable_l1 (p_t : GTable) (j1 : Option Int) : List Int → Nat → Option Int
  | [], _ => j1
  | y1 :: ys1, i1 => if !(words_Within y1 0 10000) then
  some 1
  else
  Join (fun (c1 : Bool) =>
  if c1 then
  some 7
  else
  points_CheckTable_l1 p_t j1 ys1 (i1 + 1)) (fun j2 =>
  if (decide (0 < (i1 : Int))) then Chk (inB (W ((i1 : Int) - 1)) p_t.Points.length) (
  j2 ((decide (0 < (i1 : Int))) && (decide ((nth p_t.Points (W ((i1 : Int) - 1))) < y1)))) else j2 ((decide (0 < (i1 : Int))) && true))
def points_CheckTable (p_t : GTable) : Option Int :=
  if decide (40 < (p_t.Points.length : Int)) then
  some 2
  else
  Join (if ((!(words_Within p_t.Relay 1 10)) || (!(words_Within p_t.Most 0 10))) then
  some 1
  else
  some 0) (fun j1 =>
  points_CheckTable_l1 p_t j1 p_t.Points 0)
def strings_Trim (s c : ByteArray) : Option ByteArray :=
  Chk (decide (s.size ≤ 9223372036854775807)) (Chk (decide (c.size < 4294967281)) (Chk (c.data.toList.all fun b => decide (b.toNat < 128)) (some ⟨(Lib.trimS s.data.toList c.data.toList).toArray⟩)))
def words_IsKey (p_s : ByteArray) : Option Bool :=
  Join (fun (c1 : Bool) =>
  Join (fun (c2 : Bool) =>
  Join (fun (c3 : Bool) =>
  some c3) (fun j3 =>
  if c2 then Option.bind (strings_Trim p_s k_abcdefghijkl_h0e2e2c) (fun r1 =>
  j3 (c2 && (decide (r1 = k_empty)))) else j3 (c2 && true))) (fun j2 =>
  if c1 then Chk (inB 0 p_s.size) (
  j2 (c1 && (decide ((sbyte p_s 0) ≤ 122)))) else j2 (c1 && true))) (fun j1 =>
  if ((decide (1 ≤ (p_s.size : Int))) && (decide ((p_s.size : Int) ≤ 40))) then Chk (inB 0 p_s.size) (
  j1 (((decide (1 ≤ (p_s.size : Int))) && (decide ((p_s.size : Int) ≤ 40))) && (decide (97 ≤ (sbyte p_s 0))))) else j1 (((decide (1 ≤ (p_s.size : Int))) && (decide ((p_s.size : Int) ≤ 40))) && true))
def points_compareRanks (p_a : Int) (p_b : Int) : Int :=
  Join (fun (x1 : Int) =>
  Join (fun (x2 : Int) =>
  W (x1 - x2)) (fun j2 =>
  if decide (p_b = 0) then
  j2 301
  else
  j2 p_b)) (fun j1 =>
  if decide (p_a = 0) then
  j1 301
  else
  j1 p_a)
def cmp_Or_int_l1 (j1 : Int) : List Int → Nat → Int
  | [], _ => j1
  | y1 :: ys1, i1 => if !decide (y1 = 0) then
  y1
  else
  cmp_Or_int_l1 j1 ys1 (i1 + 1)
def cmp_Or_int (p_vals : List Int) : Int :=
  Join (0) (fun j1 =>
  cmp_Or_int_l1 j1 p_vals 0)
def points_compare (p_a : GScored) (p_b : GScored) : Int :=
  (cmp_Or_int [(strings_Compare p_a.Race p_b.Race), (points_compareRanks p_a.Rank p_b.Rank), (strings_Compare p_a.Who p_b.Who)])
def points_races_l2 (p_l : List GScored) (x2 : Int) (j2 : Int → Option (List (List GScored))) : Nat → Int → Option (List (List GScored))
  | 0, _ => none
  | m2 + 1, x3 => Join (fun (c1 : Bool) =>
  if c1 then
  points_races_l2 p_l x2 j2 m2 (W (x3 + 1))
  else
  j2 x3) (fun j3 =>
  if (decide (x3 < (p_l.length : Int))) then Chk (inB x3 p_l.length) (
  Chk (inB x2 p_l.length) (
  j3 ((decide (x3 < (p_l.length : Int))) && (decide (((nth p_l x3).Race) = ((nth p_l x2).Race)))))) else j3 ((decide (x3 < (p_l.length : Int))) && true))
def points_races_l1 (p_l : List GScored) (j1 : (List (List GScored)) → Option (List (List GScored))) : Nat → (List (List GScored)) → Int → Option (List (List GScored))
  | 0, _, _ => none
  | m1 + 1, x1, x2 => if decide (x2 < (p_l.length : Int)) then
  Join (fun (x3 : Int) =>
  Chk (cutB x2 x3 p_l.length) (
  Chk (room x1.length) (
  points_races_l1 p_l j1 m1 (x1 ++ [cut p_l x2 x3]) x3))) (fun j2 =>
  points_races_l2 p_l x2 j2 (((p_l.length : Int) - (W (x2 + 1))).toNat + 2) (W (x2 + 1)))
  else
  j1 x1
def points_races (p_l : List GScored) : Option (List (List GScored)) :=
  Join (fun (x1 : List (List GScored)) =>
  some x1) (fun j1 =>
  points_races_l1 p_l j1 (((p_l.length : Int) - 0).toNat + 2) ([] : List (List GScored)) 0)
def points_checkAll_c1 (p_x : GScored) (p_a1 : List GScored) : Option Bool :=
  Chk (inB 0 p_a1.length) (
  some (!decide (p_x.Relay = ((nth p_a1 0).Relay))))
def slices_IndexFunc_Scored_points_checkAll_c1_l1 (p_f_0 : List GScored) (j1 : Option Int) : List GScored → Nat → Option Int
  | [], _ => j1
  | y1 :: ys1, i1 => Option.bind (points_checkAll_c1 y1 p_f_0) (fun r1 =>
  if r1 then
  some (i1 : Int)
  else
  slices_IndexFunc_Scored_points_checkAll_c1_l1 p_f_0 j1 ys1 (i1 + 1))
def slices_IndexFunc_Scored_points_checkAll_c1 (p_s : List GScored) (p_f_0 : List GScored) : Option Int :=
  Join (some (-1)) (fun j1 =>
  slices_IndexFunc_Scored_points_checkAll_c1_l1 p_f_0 j1 p_s 0)
def slices_ContainsFunc_Scored_points_checkAll_c1 (p_s : List GScored) (p_f_0 : List GScored) : Option Bool :=
  Option.bind (slices_IndexFunc_Scored_points_checkAll_c1 p_s p_f_0) (fun r1 =>
  some (decide (0 ≤ r1)))
def points_checkAll_l1 (j1 : (List (Gpoints_entry × Bool)) → Option Int) : List GScored → Nat → (List (Gpoints_entry × Bool)) → Option Int
  | [], _, x1 => j1 x1
  | y1 :: ys1, i1, x1 => if mgetD x1 (Gpoints_entry.mk y1.Race y1.Who) false then
  some 6
  else
  points_checkAll_l1 j1 ys1 (i1 + 1) (mput x1 (Gpoints_entry.mk y1.Race y1.Who) true)
def points_checkAll_l2 (j2 : Option Int) : List (List GScored) → Nat → Option Int
  | [], _ => j2
  | y2 :: ys2, i2 => Option.bind (slices_ContainsFunc_Scored_points_checkAll_c1 y2 y2) (fun r3 =>
  if r3 then
  some 3
  else
  points_checkAll_l2 j2 ys2 (i2 + 1))
def points_checkAll_l4 (y3 : (List GScored)) (j4 : Option Int) : List GScored → Nat → Option Int
  | [], _ => j4
  | y4 :: ys4, i4 => Join (fun (c1 : Bool) =>
  if c1 then
  some 16
  else
  points_checkAll_l4 y3 j4 ys4 (i4 + 1)) (fun j5 =>
  if ((decide (0 < y4.Rank)) && (!decide (y4.Rank = (W ((i4 : Int) + 1))))) then Join (fun (c2 : Bool) =>
  j5 (((decide (0 < y4.Rank)) && (!decide (y4.Rank = (W ((i4 : Int) + 1))))) && c2)) (fun j6 =>
  if (decide ((i4 : Int) = 0)) then j6 ((decide ((i4 : Int) = 0)) || true) else Chk (inB (W ((i4 : Int) - 1)) y3.length) (
  j6 ((decide ((i4 : Int) = 0)) || (!decide (y4.Rank = ((nth y3 (W ((i4 : Int) - 1))).Rank)))))) else j5 (((decide (0 < y4.Rank)) && (!decide (y4.Rank = (W ((i4 : Int) + 1))))) && true))
def points_checkAll_l3 (j3 : Option Int) : List (List GScored) → Nat → Option Int
  | [], _ => j3
  | y3 :: ys3, i3 => Join (points_checkAll_l3 j3 ys3 (i3 + 1)) (fun j4 =>
  points_checkAll_l4 y3 j4 y3 0)
def points_checkAll_l6 (y5 : (List GScored)) (j8 : Option Int) : Nat → Int → Option Int
  | 0, _ => none
  | m1 + 1, x2 => if decide (x2 < (y5.length : Int)) then
  Chk (inB x2 y5.length) (
  Join (fun (c3 : Bool) =>
  if c3 then
  some 12
  else
  points_checkAll_l6 y5 j8 m1 (W (x2 + 1))) (fun j9 =>
  if (decide (0 < ((nth y5 x2).Rank))) then Chk (inB x2 y5.length) (
  Chk (inB (W (x2 - 10)) y5.length) (
  j9 ((decide (0 < ((nth y5 x2).Rank))) && (decide (((nth y5 x2).Rank) = ((nth y5 (W (x2 - 10))).Rank)))))) else j9 ((decide (0 < ((nth y5 x2).Rank))) && true)))
  else
  j8
def points_checkAll_l5 (j7 : Option Int) : List (List GScored) → Nat → Option Int
  | [], _ => j7
  | y5 :: ys5, i5 => Join (points_checkAll_l5 j7 ys5 (i5 + 1)) (fun j8 =>
  points_checkAll_l6 y5 j8 (((y5.length : Int) - 10).toNat + 2) 10)
def points_checkAll (p_l : List GScored) : Option Int :=
  Join (fun (x1 : List (Gpoints_entry × Bool)) =>
  Option.bind (points_races p_l) (fun r1 =>
  Join (Join (Join (some 0) (fun j7 =>
  points_checkAll_l5 j7 r1 0)) (fun j3 =>
  points_checkAll_l3 j3 r1 0)) (fun j2 =>
  points_checkAll_l2 j2 r1 0))) (fun j1 =>
  points_checkAll_l1 j1 p_l 0 ([] : List (Gpoints_entry × Bool)))
def points_CheckScored_l1 (p_l : List GScored) (j1 : Option Int) : List GScored → Nat → Option Int
  | [], _ => j1
  | y1 :: ys1, i1 => Option.bind (words_IsKey y1.Race) (fun r1 =>
  Join (fun (c1 : Bool) =>
  Join (fun (c2 : Bool) =>
  if c2 then
  some 5
  else
  if !(words_Within y1.Rank 0 300) then
  some 1
  else
  Join (fun (x1 : Bool) =>
  if x1 then
  some 7
  else
  points_CheckScored_l1 p_l j1 ys1 (i1 + 1)) (fun j5 =>
  if decide (0 < (i1 : Int)) then
  Chk (inB (W ((i1 : Int) - 1)) p_l.length) (
  j5 (decide (0 ≤ (points_compare (nth p_l (W ((i1 : Int) - 1))) y1))))
  else
  j5 false)) (fun j3 =>
  if c1 then j3 (c1 || true) else Join (fun (c3 : Bool) =>
  j3 (c1 || c3)) (fun j4 =>
  if (!decide (y1.Club = k_empty)) then Option.bind (words_IsKey y1.Club) (fun r3 =>
  j4 ((!decide (y1.Club = k_empty)) && (!r3))) else j4 ((!decide (y1.Club = k_empty)) && true)))) (fun j2 =>
  if (!r1) then j2 ((!r1) || true) else Option.bind (words_IsKey y1.Who) (fun r2 =>
  j2 ((!r1) || (!r2)))))
def points_CheckScored (p_l : List GScored) : Option Int :=
  if decide (2000 < (p_l.length : Int)) then
  some 2
  else
  Join (Option.bind (points_checkAll p_l) (fun r4 =>
  some r4)) (fun j1 =>
  points_CheckScored_l1 p_l j1 p_l 0)
def points_checkBoth (p_t : GTable) (p_l : List GScored) : Option Int :=
  Option.bind (points_CheckTable p_t) (fun r1 =>
  if !decide (r1 = 0) then
  some r1
  else
  Option.bind (points_CheckScored p_l) (fun r2 =>
  some r2))
def points_none : GFraction :=
  (GFraction.mk 0 1)
def words_Fraction_l1 (j1 : Int → Option GFraction) : Nat → Int → Int → Option GFraction
  | 0, _, _ => none
  | m1 + 1, x1, x2 => if decide (0 < x1) then
  Chk (!decide (x1 = 0)) (
  words_Fraction_l1 j1 m1 (Int.tmod x2 x1) x1)
  else
  j1 x2
def words_Fraction (p_a : Int) (p_b : Int) : Option GFraction :=
  Join (fun (x2 : Int) =>
  Chk (!decide (x2 = 0)) (
  Chk (!decide (x2 = 0)) (
  some (GFraction.mk (W (Int.tdiv p_a x2)) (W (Int.tdiv p_b x2)))))) (fun j1 =>
  words_Fraction_l1 j1 ((p_a - 0).toNat + 2) p_a p_b)
def points_race_l1 (p_t : GTable) (j1 : (List (ByteArray × Int)) → (List Int) → (List Gpoints_row) → Option (List Gpoints_row)) : List GScored → Nat → (List (ByteArray × Int)) → (List Int) → (List Gpoints_row) → Option (List Gpoints_row)
  | [], _, x1, x2, x3 => j1 x1 x2 x3
  | y1 :: ys1, i1, x1, x2, x3 => Join (fun (x4 : List (ByteArray × Int)) (x5 : List Int) (x6 : List Gpoints_row) =>
  points_race_l1 p_t j1 ys1 (i1 + 1) x4 x5 x6) (fun j2 =>
  if ((decide (y1.Rank = 0)) || (decide (y1.Club = k_empty))) then
  j2 x1 x2 x3
  else
  Join (fun (x7 : List Int) =>
  Chk (room x3.length) (
  j2 (mput x1 y1.Club (W ((mgetD x1 y1.Club 0) + 1))) x7 (x3 ++ [(Gpoints_row.mk y1 points_none)]))) (fun j3 =>
  if ((decide (p_t.Most = 0)) || (decide ((mgetD (mput x1 y1.Club (W ((mgetD x1 y1.Club 0) + 1))) y1.Club 0) ≤ p_t.Most))) then
  Chk (room x2.length) (
  j3 (x2 ++ [(x3.length : Int)]))
  else
  j3 x2))
def points_race_l3 (p_t : GTable) (x2 : List Int) (x8 : List Gpoints_row) (x9 : Int) (j5 : Int → Int → Option (List Gpoints_row)) : Nat → Int → Int → Option (List Gpoints_row)
  | 0, _, _ => none
  | m2 + 1, x10, x11 => Join (fun (c1 : Bool) =>
  if c1 then
  Join (fun (x12 : Int) =>
  points_race_l3 p_t x2 x8 x9 j5 m2 (W (x10 + 1)) x12) (fun j7 =>
  Join (fun (x13 : Int) =>
  j7 x13) (fun j8 =>
  if decide (x10 < (p_t.Points.length : Int)) then
  Chk (inB x10 p_t.Points.length) (
  j8 (W (x11 + (nth p_t.Points x10))))
  else
  j8 x11))
  else
  j5 x10 x11) (fun j6 =>
  if (decide (x10 < (x2.length : Int))) then Chk (inB x10 x2.length) (
  Chk (inB (nth x2 x10) x8.length) (
  Chk (inB x9 x2.length) (
  Chk (inB (nth x2 x9) x8.length) (
  j6 ((decide (x10 < (x2.length : Int))) && (decide ((((nth x8 (nth x2 x10)).x_).Rank) = (((nth x8 (nth x2 x9)).x_).Rank)))))))) else j6 ((decide (x10 < (x2.length : Int))) && true))
def points_race_l4 (x10 : Int) (x9 : Int) (x14 : Int) (x2 : List Int) (j10 : (List Gpoints_row) → Option (List Gpoints_row)) : Nat → (List Gpoints_row) → Int → Option (List Gpoints_row)
  | 0, _, _ => none
  | m3 + 1, x15, x16 => if decide (x16 < ((x10.toNat - x9.toNat : Nat) : Int)) then
  Chk (inB x16 (x10.toNat - x9.toNat)) (
  Option.bind (words_Fraction x14 (W (x10 - x9))) (fun r1 =>
  Chk (inB (nth (cut x2 x9 x10) x16) x15.length) (
  points_race_l4 x10 x9 x14 x2 j10 m3 (x15.set ((nth (cut x2 x9 x10) x16).toNat) (Gpoints_row.mk ((nth x15 (nth (cut x2 x9 x10) x16)).x_) r1)) (W (x16 + 1)))))
  else
  j10 x15
def points_race_l2 (x2 : List Int) (p_l : List GScored) (p_t : GTable) (j4 : (List Gpoints_row) → Option (List Gpoints_row)) : Nat → (List Gpoints_row) → Int → Option (List Gpoints_row)
  | 0, _, _ => none
  | m1 + 1, x8, x9 => if decide (x9 < (x2.length : Int)) then
  Join (fun (x10 : Int) (x11 : Int) =>
  Chk (inB 0 p_l.length) (
  Join (fun (x14 : Int) =>
  Chk (cutB x9 x10 x2.length) (
  Join (fun (x15 : List Gpoints_row) =>
  points_race_l2 x2 p_l p_t j4 m1 x15 x10) (fun j10 =>
  points_race_l4 x10 x9 x14 x2 j10 ((((x10.toNat - x9.toNat : Nat) : Int) - 0).toNat + 2) x8 0))) (fun j9 =>
  if (nth p_l 0).Relay then
  j9 (W (x11 * p_t.Relay))
  else
  j9 x11))) (fun j5 =>
  points_race_l3 p_t x2 x8 x9 j5 (((x2.length : Int) - x9).toNat + 2) x9 0)
  else
  j4 x8
def points_race (p_t : GTable) (p_l : List GScored) : Option (List Gpoints_row) :=
  Join (fun (x1 : List (ByteArray × Int)) (x2 : List Int) (x3 : List Gpoints_row) =>
  Join (fun (x8 : List Gpoints_row) =>
  some x8) (fun j4 =>
  points_race_l2 x2 p_l p_t j4 (((x2.length : Int) - 0).toNat + 2) x3 0)) (fun j1 =>
  points_race_l1 p_t j1 p_l 0 ([] : List (ByteArray × Int)) ([] : List Int) ([] : List Gpoints_row))
def points_rows_l1 (p_t : GTable) (j1 : (List Gpoints_row) → Option (List Gpoints_row)) : List (List GScored) → Nat → (List Gpoints_row) → Option (List Gpoints_row)
  | [], _, x1 => j1 x1
  | y1 :: ys1, i1, x1 => Option.bind (points_race p_t y1) (fun r3 =>
  Chk (decide (x1.length + r3.length < 1073741824)) (
  points_rows_l1 p_t j1 ys1 (i1 + 1) (x1 ++ r3)))
def points_rows (p_t : GTable) (p_l : List GScored) : Option (List Gpoints_row) :=
  Option.bind (points_races p_l) (fun r1 =>
  Join (fun (x1 : List Gpoints_row) =>
  some x1) (fun j1 =>
  points_rows_l1 p_t j1 r1 0 ([] : List Gpoints_row)))
def points_Given_l1 (j1 : (List GGiven) → Option ((List GGiven) × Int)) : List Gpoints_row → Nat → (List GGiven) → Option ((List GGiven) × Int)
  | [], _, x1 => j1 x1
  | y1 :: ys1, i1, x1 => Chk (decide (y1.x_.Race.size + k__20.size < 1073741824)) (
  Chk (decide ((y1.x_.Race ++ k__20).size + y1.x_.Who.size < 1073741824)) (
  Chk (room x1.length) (
  points_Given_l1 j1 ys1 (i1 + 1) (x1 ++ [(GGiven.mk ((y1.x_.Race ++ k__20) ++ y1.x_.Who) y1.points_)]))))
def points_Given (p_t : GTable) (p_l : List GScored) : Option ((List GGiven) × Int) :=
  Option.bind (points_checkBoth p_t p_l) (fun r1 =>
  if !decide (r1 = 0) then
  some (([] : List GGiven), r1)
  else
  Option.bind (points_rows p_t p_l) (fun r2 =>
  Join (fun (x1 : List GGiven) =>
  some (x1, 0)) (fun j1 =>
  points_Given_l1 j1 r2 0 ([] : List GGiven))))
def points_add (p_a : GFraction) (p_b : GFraction) : Option GFraction :=
  Option.bind (words_Fraction (W ((W (p_a.Num * p_b.Den)) + (W (p_b.Num * p_a.Den)))) (W (p_a.Den * p_b.Den))) (fun r1 =>
  some r1)
def points_clubs_l1 (j1 : (List (ByteArray × GFraction)) → Option (List (ByteArray × GFraction))) : List GScored → Nat → (List (ByteArray × GFraction)) → Option (List (ByteArray × GFraction))
  | [], _, x1 => j1 x1
  | y1 :: ys1, i1, x1 => Join (fun (x2 : List (ByteArray × GFraction)) =>
  points_clubs_l1 j1 ys1 (i1 + 1) x2) (fun j2 =>
  Join (fun (x3 : List (ByteArray × GFraction)) =>
  j2 x3) (fun j3 =>
  if !decide (y1.Club = k_empty) then
  j3 (mput x1 y1.Club points_none)
  else
  j3 x1))
def points_clubs_l2 (j4 : (List (ByteArray × GFraction)) → Option (List (ByteArray × GFraction))) : List Gpoints_row → Nat → (List (ByteArray × GFraction)) → Option (List (ByteArray × GFraction))
  | [], _, x4 => j4 x4
  | y2 :: ys2, i2, x4 => Option.bind (points_add (mgetD x4 y2.x_.Club (GFraction.mk 0 0)) y2.points_) (fun r2 =>
  points_clubs_l2 j4 ys2 (i2 + 1) (mput x4 y2.x_.Club r2))
def points_clubs (p_t : GTable) (p_l : List GScored) : Option (List (ByteArray × GFraction)) :=
  Join (fun (x1 : List (ByteArray × GFraction)) =>
  Option.bind (points_rows p_t p_l) (fun r1 =>
  Join (fun (x4 : List (ByteArray × GFraction)) =>
  some x4) (fun j4 =>
  points_clubs_l2 j4 r1 0 x1))) (fun j1 =>
  points_clubs_l1 j1 p_l 0 ([] : List (ByteArray × GFraction)))
def points_sums_c1 (p_a : GGiven) (p_b : GGiven) : Int :=
  (strings_Compare p_a.Key p_b.Key)
def slices_insertionSortCmpFunc_Given_points_sums_c1_l2 (p_a : Int) (j2 : (List GGiven) → Option (List GGiven)) : Nat → (List GGiven) → Int → Option (List GGiven)
  | 0, _, _ => none
  | m2 + 1, x3, x4 => Join (fun (x5 : Bool) =>
  if x5 then
  Chk (inB (W (x4 - 1)) x3.length) (
  Chk (inB x4 x3.length) (
  Chk (inB x4 x3.length) (
  Chk (inB (W (x4 - 1)) (x3.set x4.toNat (GGiven.mk ((nth x3 (W (x4 - 1))).Key) ((nth x3 (W (x4 - 1))).Points))).length) (
  slices_insertionSortCmpFunc_Given_points_sums_c1_l2 p_a j2 m2 ((x3.set x4.toNat (GGiven.mk ((nth x3 (W (x4 - 1))).Key) ((nth x3 (W (x4 - 1))).Points))).set ((W (x4 - 1)).toNat) (GGiven.mk ((nth x3 x4).Key) ((nth x3 x4).Points))) (W (x4 - 1))))))
  else
  j2 x3) (fun j3 =>
  if decide (p_a < x4) then
  Chk (inB x4 x3.length) (
  Chk (inB (W (x4 - 1)) x3.length) (
  j3 (decide ((points_sums_c1 (GGiven.mk ((nth x3 x4).Key) ((nth x3 x4).Points)) (GGiven.mk ((nth x3 (W (x4 - 1))).Key) ((nth x3 (W (x4 - 1))).Points))) < 0))))
  else
  j3 false)
def slices_insertionSortCmpFunc_Given_points_sums_c1_l1 (p_b : Int) (p_a : Int) (j1 : (List GGiven) → Option (List GGiven)) : Nat → (List GGiven) → Int → Option (List GGiven)
  | 0, _, _ => none
  | m1 + 1, x1, x2 => if decide (x2 < p_b) then
  Join (fun (x3 : List GGiven) =>
  slices_insertionSortCmpFunc_Given_points_sums_c1_l1 p_b p_a j1 m1 x3 (W (x2 + 1))) (fun j2 =>
  slices_insertionSortCmpFunc_Given_points_sums_c1_l2 p_a j2 ((x2 - p_a).toNat + 2) x1 x2)
  else
  j1 x1
def slices_insertionSortCmpFunc_Given_points_sums_c1 (p_data : List GGiven) (p_a : Int) (p_b : Int) : Option (List GGiven) :=
  Join (fun (x1 : List GGiven) =>
  some x1) (fun j1 =>
  slices_insertionSortCmpFunc_Given_points_sums_c1_l1 p_b p_a j1 ((p_b - (W (p_a + 1))).toNat + 2) p_data (W (p_a + 1)))
def slices_pdqsortCmpFunc_Given_points_sums_c1_l1 (p_data : List GGiven) : Nat → Int → Int → Int → Bool → Option (List GGiven)
  | 0, _, _, _, _ => none
  | _ + 1, x1, x2, x3, x4 => if decide ((W (x2 - x1)) ≤ 12) then
  Option.bind (slices_insertionSortCmpFunc_Given_points_sums_c1 p_data x1 x2) (fun r1 =>
  some r1)
  else
  if decide (x3 = 0) then
  none
  else
  if !x4 then
  none
  else
  none
def slices_pdqsortCmpFunc_Given_points_sums_c1 (p_data : List GGiven) (p_a : Int) (p_b : Int) (p_limit : Int) : Option (List GGiven) :=
  slices_pdqsortCmpFunc_Given_points_sums_c1_l1 p_data 4611686018427387904 p_a p_b p_limit true
def slices_SortFunc_Given_points_sums_c1 (p_x : List GGiven) : Option (List GGiven) :=
  Option.bind (bits_Len (IntKind.wrap .u64 (p_x.length : Int))) (fun r1 =>
  Option.bind (slices_pdqsortCmpFunc_Given_points_sums_c1 p_x 0 (p_x.length : Int) r1) (fun r2 =>
  some r2))
def points_sums_l1 (j1 : (List GGiven) → Option (List GGiven)) : List (ByteArray × GFraction) → (List GGiven) → Option (List GGiven)
  | [], x1 => j1 x1
  | y1 :: ys1, x1 => Option.bind (α := (List GGiven)) (
  Chk (room x1.length) (
  some (x1 ++ [(GGiven.mk y1.1 y1.2)]))) (fun s => points_sums_l1 j1 ys1 s)
def points_sums (p_m : List (ByteArray × GFraction)) : Option (List GGiven) :=
  Join (fun (x1 : List GGiven) =>
  Option.bind (slices_SortFunc_Given_points_sums_c1 x1) (fun r1 =>
  some r1)) (fun j1 =>
  AllP p_m (fun p => points_sums_l1 j1 p ([] : List GGiven)))
def points_Clubs (p_t : GTable) (p_l : List GScored) : Option ((List GGiven) × Int) :=
  Option.bind (points_checkBoth p_t p_l) (fun r1 =>
  if !decide (r1 = 0) then
  some (([] : List GGiven), r1)
  else
  Option.bind (points_clubs p_t p_l) (fun r2 =>
  Option.bind (points_sums r2) (fun r3 =>
  some (r3, 0))))
def points_Swimmers_l1 (j1 : (List (ByteArray × GFraction)) → Option ((List GGiven) × Int)) : List Gpoints_row → Nat → (List (ByteArray × GFraction)) → Option ((List GGiven) × Int)
  | [], _, x1 => j1 x1
  | y1 :: ys1, i1, x1 => Join (fun (x2 : List (ByteArray × GFraction)) =>
  points_Swimmers_l1 j1 ys1 (i1 + 1) x2) (fun j2 =>
  if y1.x_.Relay then
  j2 x1
  else
  Join (fun (x3 : Int) (x4 : Int) =>
  Option.bind (points_add (GFraction.mk x3 x4) y1.points_) (fun r3 =>
  j2 (mput x1 y1.x_.Who r3))) (fun j3 =>
  if !((mget x1 y1.x_.Who).isSome) then
  j3 points_none.Num points_none.Den
  else
  j3 ((mgetD x1 y1.x_.Who (GFraction.mk 0 0)).Num) ((mgetD x1 y1.x_.Who (GFraction.mk 0 0)).Den)))
def points_Swimmers (p_t : GTable) (p_l : List GScored) : Option ((List GGiven) × Int) :=
  Option.bind (points_checkBoth p_t p_l) (fun r1 =>
  if !decide (r1 = 0) then
  some (([] : List GGiven), r1)
  else
  Option.bind (points_rows p_t p_l) (fun r2 =>
  Join (fun (x1 : List (ByteArray × GFraction)) =>
  Option.bind (points_sums x1) (fun r4 =>
  some (r4, 0))) (fun j1 =>
  points_Swimmers_l1 j1 r2 0 ([] : List (ByteArray × GFraction)))))
def points_All_l1 (j1 : Int → Int → Option (GFraction × Int)) : List Gpoints_row → Nat → Int → Int → Option (GFraction × Int)
  | [], _, x1, x2 => j1 x1 x2
  | y1 :: ys1, i1, x1, x2 => Option.bind (points_add (GFraction.mk x1 x2) y1.points_) (fun r3 =>
  points_All_l1 j1 ys1 (i1 + 1) r3.Num r3.Den)
def points_All (p_t : GTable) (p_l : List GScored) : Option (GFraction × Int) :=
  Option.bind (points_checkBoth p_t p_l) (fun r1 =>
  if !decide (r1 = 0) then
  some ((GFraction.mk 0 0), r1)
  else
  Option.bind (points_rows p_t p_l) (fun r2 =>
  Join (fun (x1 : Int) (x2 : Int) =>
  some ((GFraction.mk x1 x2), 0)) (fun j1 =>
  points_All_l1 j1 r2 0 points_none.Num points_none.Den)))
def tumbref2_in (p_n : Int) (p_low : Int) (p_high : Int) : Bool :=
  ((decide (p_low ≤ p_n)) && (decide (p_n ≤ p_high)))
def tumbref2_TableFault_l1 (p_t : GTable) (j1 : Option Int) : List Int → Nat → Option Int
  | [], _ => j1
  | y1 :: ys1, i1 => if !(tumbref2_in y1 0 10000) then
  some 1
  else
  Join (fun (c1 : Bool) =>
  if c1 then
  some 7
  else
  tumbref2_TableFault_l1 p_t j1 ys1 (i1 + 1)) (fun j2 =>
  if (decide (0 < (i1 : Int))) then Chk (inB (W ((i1 : Int) - 1)) p_t.Points.length) (
  j2 ((decide (0 < (i1 : Int))) && (decide ((nth p_t.Points (W ((i1 : Int) - 1))) < y1)))) else j2 ((decide (0 < (i1 : Int))) && true))
def tumbref2_TableFault (p_t : GTable) : Option Int :=
  if decide (40 < (p_t.Points.length : Int)) then
  some 2
  else
  Join (if ((!(tumbref2_in p_t.Relay 1 10)) || (!(tumbref2_in p_t.Most 0 10))) then
  some 1
  else
  some 0) (fun j1 =>
  tumbref2_TableFault_l1 p_t j1 p_t.Points 0)
def strings_IndexByte (s : ByteArray) (c : Int) : Int := Lib.indexByte s.data.toList c.toNat.toUInt8
def tumbref2_only_l1 (p_s : ByteArray) (p_some : ByteArray) (j1 : Option Bool) : Nat → Int → Option Bool
  | 0, _ => none
  | m1 + 1, x1 => if decide (x1 < (p_s.size : Int)) then
  Chk (inB x1 p_s.size) (
  if decide ((strings_IndexByte p_some (sbyte p_s x1)) < 0) then
  some false
  else
  tumbref2_only_l1 p_s p_some j1 m1 (W (x1 + 1)))
  else
  j1
def tumbref2_only (p_s : ByteArray) (p_some : ByteArray) : Option Bool :=
  Join (some true) (fun j1 =>
  tumbref2_only_l1 p_s p_some j1 (((p_s.size : Int) - 0).toNat + 2) 0)
def tumbref2_Key (p_s : ByteArray) : Option Bool :=
  Join (fun (c1 : Bool) =>
  Join (fun (c2 : Bool) =>
  some c2) (fun j2 =>
  if c1 then Option.bind (tumbref2_only p_s k_abcdefghijkl_h0e2e2c) (fun r2 =>
  j2 (c1 && r2)) else j2 (c1 && true))) (fun j1 =>
  if (tumbref2_in (p_s.size : Int) 1 40) then Chk (cutB 0 1 p_s.size) (
  Option.bind (tumbref2_only (scut p_s 0 1) k_abcdefghijklmnopqrstuvwxyz) (fun r1 =>
  j1 ((tumbref2_in (p_s.size : Int) 1 40) && r1))) else j1 ((tumbref2_in (p_s.size : Int) 1 40) && true))
def tumbref2_ScoredFault_l1 (p_l : List GScored) (j1 : Option Int) : List GScored → Nat → Option Int
  | [], _ => j1
  | y1 :: ys1, i1 => Option.bind (tumbref2_Key y1.Race) (fun r1 =>
  Join (fun (c1 : Bool) =>
  Join (fun (c2 : Bool) =>
  if c2 then
  some 5
  else
  if !(tumbref2_in y1.Rank 0 300) then
  some 1
  else
  Join (fun (x1 : Bool) =>
  if x1 then
  some 7
  else
  tumbref2_ScoredFault_l1 p_l j1 ys1 (i1 + 1)) (fun j5 =>
  if decide (0 < (i1 : Int)) then
  Chk (inB (W ((i1 : Int) - 1)) p_l.length) (
  j5 (decide (0 ≤ (tumbref2_ScoredOrder (nth p_l (W ((i1 : Int) - 1))) y1))))
  else
  j5 false)) (fun j3 =>
  if c1 then j3 (c1 || true) else Join (fun (c3 : Bool) =>
  j3 (c1 || c3)) (fun j4 =>
  if (!decide (y1.Club = k_empty)) then Option.bind (tumbref2_Key y1.Club) (fun r3 =>
  j4 ((!decide (y1.Club = k_empty)) && (!r3))) else j4 ((!decide (y1.Club = k_empty)) && true)))) (fun j2 =>
  if (!r1) then j2 ((!r1) || true) else Option.bind (tumbref2_Key y1.Who) (fun r2 =>
  j2 ((!r1) || (!r2)))))
def tumbref2_ScoredFault_l3 (y2 : GScored) (i2 : Nat) (j7 : Bool → Bool → Int → Int → Option Int) : List GScored → Nat → Bool → Bool → Int → Int → Option Int
  | [], _, x6, x7, x8, x9 => j7 x6 x7 x8 x9
  | y3 :: ys3, i3, x6, x7, x8, x9 => Join (fun (x10 : Bool) (x11 : Bool) (x12 : Int) (x13 : Int) =>
  tumbref2_ScoredFault_l3 y2 i2 j7 ys3 (i3 + 1) x10 x11 x12 x13) (fun j8 =>
  if !decide (y3.Race = y2.Race) then
  j8 x6 x7 x8 x9
  else
  Join (fun (x14 : Int) =>
  Join (fun (x15 : Int) =>
  j8 (x6 || ((!decide ((i3 : Int) = (i2 : Int))) && (decide (y3.Who = y2.Who)))) (x7 || (!decide (y3.Relay = y2.Relay))) x14 x15) (fun j10 =>
  if decide (y3.Rank = y2.Rank) then
  j10 (W (x9 + 1))
  else
  j10 x9)) (fun j9 =>
  if ((decide (0 < y3.Rank)) && (decide (y3.Rank < y2.Rank))) then
  j9 (W (x8 + 1))
  else
  j9 x8))
def tumbref2_ScoredFault_l2 (p_l : List GScored) (j6 : Bool → Bool → Bool → Bool → Option Int) : List GScored → Nat → Bool → Bool → Bool → Bool → Option Int
  | [], _, x2, x3, x4, x5 => j6 x2 x3 x4 x5
  | y2 :: ys2, i2, x2, x3, x4, x5 => Join (fun (x6 : Bool) (x7 : Bool) (x8 : Int) (x9 : Int) =>
  tumbref2_ScoredFault_l2 p_l j6 ys2 (i2 + 1) x6 x7 (x4 || ((decide (0 < y2.Rank)) && (!decide (y2.Rank = (W (x8 + 1)))))) (x5 || ((decide (0 < y2.Rank)) && (decide (10 < x9))))) (fun j7 =>
  tumbref2_ScoredFault_l3 y2 i2 j7 p_l 0 x2 x3 0 0)
def tumbref2_ScoredFault_l4 (j11 : Option Int) : List Gno_is_e → Nat → Option Int
  | [], _ => j11
  | y4 :: ys4, i4 => if y4.is_ then
  some y4.e_
  else
  tumbref2_ScoredFault_l4 j11 ys4 (i4 + 1)
def tumbref2_ScoredFault (p_l : List GScored) : Option Int :=
  if decide (2000 < (p_l.length : Int)) then
  some 2
  else
  Join (Join (fun (x2 : Bool) (x3 : Bool) (x4 : Bool) (x5 : Bool) =>
  Join (some 0) (fun j11 =>
  tumbref2_ScoredFault_l4 j11 ([(Gno_is_e.mk x2 6), (Gno_is_e.mk x3 3), (Gno_is_e.mk x4 16), (Gno_is_e.mk x5 12)] : List Gno_is_e) 0)) (fun j6 =>
  tumbref2_ScoredFault_l2 p_l j6 p_l 0 false false false false)) (fun j1 =>
  tumbref2_ScoredFault_l1 p_l j1 p_l 0)
def tumblaw2_errs_l1 (j1 : Int) : List Int → Nat → Int
  | [], _ => j1
  | y1 :: ys1, i1 => if !decide (y1 = 0) then
  y1
  else
  tumblaw2_errs_l1 j1 ys1 (i1 + 1)
def tumblaw2_errs (p_l : List Int) : Int :=
  Join (0) (fun j1 =>
  tumblaw2_errs_l1 j1 p_l 0)
def timing_IsTime (p_n : Int) : Bool :=
  (words_Within p_n 1 360000)
def points_CheckBase_l1 (p_l : List GBase) (j1 : Option Int) : List GBase → Nat → Option Int
  | [], _ => j1
  | y1 :: ys1, i1 => Option.bind (words_IsKey y1.Race) (fun r1 =>
  if !r1 then
  some 5
  else
  Join (fun (c1 : Bool) =>
  if c1 then
  some 7
  else
  if !(timing_IsTime y1.Time) then
  some 1
  else
  points_CheckBase_l1 p_l j1 ys1 (i1 + 1)) (fun j2 =>
  if (decide (0 < (i1 : Int))) then Chk (inB (W ((i1 : Int) - 1)) p_l.length) (
  j2 ((decide (0 < (i1 : Int))) && (Sless y1.Race ((nth p_l (W ((i1 : Int) - 1))).Race) || decide (y1.Race = ((nth p_l (W ((i1 : Int) - 1))).Race))))) else j2 ((decide (0 < (i1 : Int))) && true)))
def points_CheckBase (p_l : List GBase) : Option Int :=
  if decide (500 < (p_l.length : Int)) then
  some 2
  else
  Join (some 0) (fun j1 =>
  points_CheckBase_l1 p_l j1 p_l 0)
def points_baseOf_l1 (p_race : ByteArray) (j1 : Int) : List GBase → Nat → Int
  | [], _ => j1
  | y1 :: ys1, i1 => if decide (y1.Race = p_race) then
  y1.Time
  else
  points_baseOf_l1 p_race j1 ys1 (i1 + 1)
def points_baseOf (p_l : List GBase) (p_race : ByteArray) : Int :=
  Join (0) (fun j1 =>
  points_baseOf_l1 p_race j1 p_l 0)
def bits_Mul64 (p_x : Int) (p_y : Int) : (Int × Int) :=
  (IntKind.wrap .u64 ((IntKind.wrap .u64 ((IntKind.wrap .u64 ((bitShr .u64 p_x 32) * (bitShr .u64 p_y 32))) + (bitShr .u64 (IntKind.wrap .u64 ((IntKind.wrap .u64 ((bitShr .u64 p_x 32) * (bitAnd .u64 p_y 4294967295))) + (bitShr .u64 (IntKind.wrap .u64 ((bitAnd .u64 p_x 4294967295) * (bitAnd .u64 p_y 4294967295))) 32))) 32))) + (bitShr .u64 (IntKind.wrap .u64 ((bitAnd .u64 (IntKind.wrap .u64 ((IntKind.wrap .u64 ((bitShr .u64 p_x 32) * (bitAnd .u64 p_y 4294967295))) + (bitShr .u64 (IntKind.wrap .u64 ((bitAnd .u64 p_x 4294967295) * (bitAnd .u64 p_y 4294967295))) 32))) 4294967295) + (IntKind.wrap .u64 ((bitAnd .u64 p_x 4294967295) * (bitShr .u64 p_y 32))))) 32)), IntKind.wrap .u64 (p_x * p_y))
def bits_LeadingZeros64 (p_x : Int) : Option Int :=
  Option.bind (bits_Len64 p_x) (fun r1 =>
  some (W (64 - r1)))
def bits_Div64_l1 (p_lo : Int) (r1 : Int) (p_y : Int) (j1 : Int → Option (Int × Int)) : Nat → Int → Int → Option (Int × Int)
  | 0, _, _ => none
  | m1 + 1, x1, x2 => if ((decide (4294967296 ≤ x1)) || (decide ((IntKind.wrap .u64 ((IntKind.wrap .u64 (4294967296 * x2)) + (bitShr .u64 (bitShl .u64 p_lo (IntKind.wrap .u64 r1)) 32))) < (IntKind.wrap .u64 (x1 * (bitAnd .u64 (bitShl .u64 p_y (IntKind.wrap .u64 r1)) 4294967295)))))) then
  if decide (4294967296 ≤ (IntKind.wrap .u64 (x2 + (bitShr .u64 (bitShl .u64 p_y (IntKind.wrap .u64 r1)) 32)))) then
  j1 (IntKind.wrap .u64 (x1 - 1))
  else
  bits_Div64_l1 p_lo r1 p_y j1 m1 (IntKind.wrap .u64 (x1 - 1)) (IntKind.wrap .u64 (x2 + (bitShr .u64 (bitShl .u64 p_y (IntKind.wrap .u64 r1)) 32)))
  else
  j1 x1
def bits_Div64_l2 (p_lo : Int) (r1 : Int) (p_y : Int) (j2 : Int → Option (Int × Int)) : Nat → Int → Int → Option (Int × Int)
  | 0, _, _ => none
  | m2 + 1, x3, x4 => if ((decide (4294967296 ≤ x4)) || (decide ((IntKind.wrap .u64 ((IntKind.wrap .u64 (4294967296 * x3)) + (bitAnd .u64 (bitShl .u64 p_lo (IntKind.wrap .u64 r1)) 4294967295))) < (IntKind.wrap .u64 (x4 * (bitAnd .u64 (bitShl .u64 p_y (IntKind.wrap .u64 r1)) 4294967295)))))) then
  if decide (4294967296 ≤ (IntKind.wrap .u64 (x3 + (bitShr .u64 (bitShl .u64 p_y (IntKind.wrap .u64 r1)) 32)))) then
  j2 (IntKind.wrap .u64 (x4 - 1))
  else
  bits_Div64_l2 p_lo r1 p_y j2 m2 (IntKind.wrap .u64 (x3 + (bitShr .u64 (bitShl .u64 p_y (IntKind.wrap .u64 r1)) 32))) (IntKind.wrap .u64 (x4 - 1))
  else
  j2 x4
def bits_Div64 (p_hi : Int) (p_lo : Int) (p_y : Int) : Option (Int × Int) :=
  if decide (p_y = 0) then
  none
  else
  if decide (p_y ≤ p_hi) then
  none
  else
  if decide (p_hi = 0) then
  Chk (!decide (p_y = 0)) (
  Chk (!decide (p_y = 0)) (
  some (IntKind.wrap .u64 (Int.tdiv p_lo p_y), Int.tmod p_lo p_y)))
  else
  Option.bind (bits_LeadingZeros64 p_y) (fun r1 =>
  Chk (decide (0 ≤ (IntKind.wrap .u64 r1))) (
  Chk (decide (0 ≤ (IntKind.wrap .u64 r1))) (
  Chk (decide (0 ≤ (IntKind.wrap .u64 (64 - (IntKind.wrap .u64 r1))))) (
  Chk (decide (0 ≤ (IntKind.wrap .u64 r1))) (
  Chk (!decide ((bitShr .u64 (bitShl .u64 p_y (IntKind.wrap .u64 r1)) 32) = 0)) (
  Join (fun (x1 : Int) =>
  Chk (!decide ((bitShr .u64 (bitShl .u64 p_y (IntKind.wrap .u64 r1)) 32) = 0)) (
  Join (fun (x4 : Int) =>
  Chk (decide (0 ≤ (IntKind.wrap .u64 r1))) (
  some (IntKind.wrap .u64 ((IntKind.wrap .u64 (x1 * 4294967296)) + x4), bitShr .u64 (IntKind.wrap .u64 ((IntKind.wrap .u64 ((IntKind.wrap .u64 ((IntKind.wrap .u64 ((IntKind.wrap .u64 ((IntKind.wrap .u64 ((bitOr .u64 (bitShl .u64 p_hi (IntKind.wrap .u64 r1)) (bitShr .u64 p_lo (IntKind.wrap .u64 (64 - (IntKind.wrap .u64 r1))))) * 4294967296)) + (bitShr .u64 (bitShl .u64 p_lo (IntKind.wrap .u64 r1)) 32))) - (IntKind.wrap .u64 (x1 * (bitShl .u64 p_y (IntKind.wrap .u64 r1)))))) * 4294967296)) + (bitAnd .u64 (bitShl .u64 p_lo (IntKind.wrap .u64 r1)) 4294967295))) - (IntKind.wrap .u64 (x4 * (bitShl .u64 p_y (IntKind.wrap .u64 r1)))))) (IntKind.wrap .u64 r1)))) (fun j2 =>
  bits_Div64_l2 p_lo r1 p_y j2 (((IntKind.wrap .u64 (Int.tdiv (IntKind.wrap .u64 ((IntKind.wrap .u64 ((IntKind.wrap .u64 ((bitOr .u64 (bitShl .u64 p_hi (IntKind.wrap .u64 r1)) (bitShr .u64 p_lo (IntKind.wrap .u64 (64 - (IntKind.wrap .u64 r1))))) * 4294967296)) + (bitShr .u64 (bitShl .u64 p_lo (IntKind.wrap .u64 r1)) 32))) - (IntKind.wrap .u64 (x1 * (bitShl .u64 p_y (IntKind.wrap .u64 r1)))))) (bitShr .u64 (bitShl .u64 p_y (IntKind.wrap .u64 r1)) 32))) - 4294967296).toNat + 2) (IntKind.wrap .u64 ((IntKind.wrap .u64 ((IntKind.wrap .u64 ((IntKind.wrap .u64 ((bitOr .u64 (bitShl .u64 p_hi (IntKind.wrap .u64 r1)) (bitShr .u64 p_lo (IntKind.wrap .u64 (64 - (IntKind.wrap .u64 r1))))) * 4294967296)) + (bitShr .u64 (bitShl .u64 p_lo (IntKind.wrap .u64 r1)) 32))) - (IntKind.wrap .u64 (x1 * (bitShl .u64 p_y (IntKind.wrap .u64 r1)))))) - (IntKind.wrap .u64 ((IntKind.wrap .u64 (Int.tdiv (IntKind.wrap .u64 ((IntKind.wrap .u64 ((IntKind.wrap .u64 ((bitOr .u64 (bitShl .u64 p_hi (IntKind.wrap .u64 r1)) (bitShr .u64 p_lo (IntKind.wrap .u64 (64 - (IntKind.wrap .u64 r1))))) * 4294967296)) + (bitShr .u64 (bitShl .u64 p_lo (IntKind.wrap .u64 r1)) 32))) - (IntKind.wrap .u64 (x1 * (bitShl .u64 p_y (IntKind.wrap .u64 r1)))))) (bitShr .u64 (bitShl .u64 p_y (IntKind.wrap .u64 r1)) 32))) * (bitShr .u64 (bitShl .u64 p_y (IntKind.wrap .u64 r1)) 32))))) (IntKind.wrap .u64 (Int.tdiv (IntKind.wrap .u64 ((IntKind.wrap .u64 ((IntKind.wrap .u64 ((bitOr .u64 (bitShl .u64 p_hi (IntKind.wrap .u64 r1)) (bitShr .u64 p_lo (IntKind.wrap .u64 (64 - (IntKind.wrap .u64 r1))))) * 4294967296)) + (bitShr .u64 (bitShl .u64 p_lo (IntKind.wrap .u64 r1)) 32))) - (IntKind.wrap .u64 (x1 * (bitShl .u64 p_y (IntKind.wrap .u64 r1)))))) (bitShr .u64 (bitShl .u64 p_y (IntKind.wrap .u64 r1)) 32)))))) (fun j1 =>
  bits_Div64_l1 p_lo r1 p_y j1 (((IntKind.wrap .u64 (Int.tdiv (bitOr .u64 (bitShl .u64 p_hi (IntKind.wrap .u64 r1)) (bitShr .u64 p_lo (IntKind.wrap .u64 (64 - (IntKind.wrap .u64 r1))))) (bitShr .u64 (bitShl .u64 p_y (IntKind.wrap .u64 r1)) 32))) - 4294967296).toNat + 2) (IntKind.wrap .u64 (Int.tdiv (bitOr .u64 (bitShl .u64 p_hi (IntKind.wrap .u64 r1)) (bitShr .u64 p_lo (IntKind.wrap .u64 (64 - (IntKind.wrap .u64 r1))))) (bitShr .u64 (bitShl .u64 p_y (IntKind.wrap .u64 r1)) 32))) (IntKind.wrap .u64 ((bitOr .u64 (bitShl .u64 p_hi (IntKind.wrap .u64 r1)) (bitShr .u64 p_lo (IntKind.wrap .u64 (64 - (IntKind.wrap .u64 r1))))) - (IntKind.wrap .u64 ((IntKind.wrap .u64 (Int.tdiv (bitOr .u64 (bitShl .u64 p_hi (IntKind.wrap .u64 r1)) (bitShr .u64 p_lo (IntKind.wrap .u64 (64 - (IntKind.wrap .u64 r1))))) (bitShr .u64 (bitShl .u64 p_y (IntKind.wrap .u64 r1)) 32))) * (bitShr .u64 (bitShl .u64 p_y (IntKind.wrap .u64 r1)) 32))))))))))))
def points_byTime (p_base : Int) (p_time : Int) : Option Int :=
  if decide ((IntKind.wrap .u64 ((IntKind.wrap .u64 ((IntKind.wrap .u64 p_time) * (IntKind.wrap .u64 p_time))) * (IntKind.wrap .u64 p_time))) ≤ ((bits_Mul64 (IntKind.wrap .u64 ((IntKind.wrap .u64 ((IntKind.wrap .u64 p_base) * (IntKind.wrap .u64 p_base))) * (IntKind.wrap .u64 p_base))) 1000).1)) then
  some 1000000000
  else
  Option.bind (bits_Div64 ((bits_Mul64 (IntKind.wrap .u64 ((IntKind.wrap .u64 ((IntKind.wrap .u64 p_base) * (IntKind.wrap .u64 p_base))) * (IntKind.wrap .u64 p_base))) 1000).1) ((bits_Mul64 (IntKind.wrap .u64 ((IntKind.wrap .u64 ((IntKind.wrap .u64 p_base) * (IntKind.wrap .u64 p_base))) * (IntKind.wrap .u64 p_base))) 1000).2) (IntKind.wrap .u64 ((IntKind.wrap .u64 ((IntKind.wrap .u64 p_time) * (IntKind.wrap .u64 p_time))) * (IntKind.wrap .u64 p_time)))) (fun r1 =>
  some (W (imin r1.1 1000000000)))
def points_ByTime (p_l : List GBase) (p_race : ByteArray) (p_time : Int) : Option (Int × Int) :=
  Option.bind (points_CheckBase p_l) (fun r1 =>
  if !decide (r1 = 0) then
  some (0, r1)
  else
  if decide ((points_baseOf p_l p_race) = 0) then
  some (0, 8)
  else
  if !(timing_IsTime p_time) then
  some (0, 1)
  else
  Option.bind (points_byTime (points_baseOf p_l p_race) p_time) (fun r2 =>
  some (r2, 0)))
def tumblaw2_pointed : Option Bool :=
  Option.bind (points_ByTime [(GBase.mk k_r 3000)] k_r 6000) (fun r1 =>
  some ((decide (r1.2 = 0)) && (decide (r1.1 = 125))))
def tumbref2_counted (p_s : GScored) : Bool :=
  ((decide (0 < p_s.Rank)) && (!decide (p_s.Club = k_empty)))
def slices_Index_Scored_l1 (p_v : GScored) (j1 : Int) : List GScored → Nat → Int
  | [], _ => j1
  | y1 :: ys1, i1 => if decide (p_v = y1) then
  (i1 : Int)
  else
  slices_Index_Scored_l1 p_v j1 ys1 (i1 + 1)
def slices_Index_Scored (p_s : List GScored) (p_v : GScored) : Int :=
  Join ((-1)) (fun j1 =>
  slices_Index_Scored_l1 p_v j1 p_s 0)
def slices_Contains_Scored (p_s : List GScored) (p_v : GScored) : Bool :=
  decide (0 ≤ (slices_Index_Scored p_s p_v))
def tumbref2_Lowest_l1 (j1 : Int → Option GFraction) : Nat → Int → Int → Option GFraction
  | 0, _, _ => none
  | m1 + 1, x1, x2 => if !decide (x2 = 0) then
  Chk (!decide (x2 = 0)) (
  tumbref2_Lowest_l1 j1 m1 x2 (Int.tmod x1 x2))
  else
  j1 x1
def tumbref2_Lowest (p_num : Int) (p_den : Int) : Option GFraction :=
  Join (fun (x1 : Int) =>
  Join (fun (x3 : Int) =>
  Chk (!decide (x3 = 0)) (
  Chk (!decide (x3 = 0)) (
  some (GFraction.mk (W (Int.tdiv p_num x3)) (W (Int.tdiv p_den x3)))))) (fun j2 =>
  if decide (x1 < 0) then
  j2 (W (0 - x1))
  else
  j2 x1)) (fun j1 =>
  tumbref2_Lowest_l1 j1 4611686018427387904 p_num p_den)
def tumbref2_shareOf_l1 (p_x : GScored) (p_t : GTable) (j1 : (List (ByteArray × Int)) → (List GScored) → Option GFraction) : List GScored → Nat → (List (ByteArray × Int)) → (List GScored) → Option GFraction
  | [], _, x1, x2 => j1 x1 x2
  | y1 :: ys1, i1, x1, x2 => Join (fun (x3 : List (ByteArray × Int)) (x4 : List GScored) =>
  tumbref2_shareOf_l1 p_x p_t j1 ys1 (i1 + 1) x3 x4) (fun j2 =>
  if (((!decide (y1.Race = p_x.Race)) || (decide (y1.Rank = 0))) || (decide (y1.Club = k_empty))) then
  j2 x1 x2
  else
  Join (fun (x5 : List GScored) =>
  j2 (mput x1 y1.Club (W ((mgetD x1 y1.Club 0) + 1))) x5) (fun j3 =>
  if ((decide (p_t.Most = 0)) || (decide ((mgetD (mput x1 y1.Club (W ((mgetD x1 y1.Club 0) + 1))) y1.Club 0) ≤ p_t.Most))) then
  Chk (room x2.length) (
  j3 (x2 ++ [y1]))
  else
  j3 x2))
def tumbref2_shareOf_l2 (p_x : GScored) (p_t : GTable) (j4 : Int → Int → Option GFraction) : List GScored → Nat → Int → Int → Option GFraction
  | [], _, x6, x7 => j4 x6 x7
  | y2 :: ys2, i2, x6, x7 => Join (fun (x8 : Int) (x9 : Int) =>
  tumbref2_shareOf_l2 p_x p_t j4 ys2 (i2 + 1) x8 x9) (fun j5 =>
  Join (fun (x10 : Int) (x11 : Int) =>
  j5 x10 x11) (fun j6 =>
  if decide (y2.Rank = p_x.Rank) then
  Join (fun (x12 : Int) =>
  j6 x12 (W (x7 + 1))) (fun j7 =>
  if decide ((i2 : Int) < (p_t.Points.length : Int)) then
  Chk (inB (i2 : Int) p_t.Points.length) (
  j7 (W (x6 + (nth p_t.Points (i2 : Int)))))
  else
  j7 x6)
  else
  j6 x6 x7))
def tumbref2_shareOf (p_t : GTable) (p_l : List GScored) (p_x : GScored) : Option GFraction :=
  Join (fun (x1 : List (ByteArray × Int)) (x2 : List GScored) =>
  if !(slices_Contains_Scored x2 p_x) then
  some (GFraction.mk 0 1)
  else
  Join (fun (x6 : Int) (x7 : Int) =>
  Join (fun (x13 : Int) =>
  Option.bind (tumbref2_Lowest x13 x7) (fun r1 =>
  some r1)) (fun j8 =>
  if p_x.Relay then
  j8 (W (x6 * p_t.Relay))
  else
  j8 x6)) (fun j4 =>
  tumbref2_shareOf_l2 p_x p_t j4 x2 0 0 0)) (fun j1 =>
  tumbref2_shareOf_l1 p_x p_t j1 p_l 0 ([] : List (ByteArray × Int)) ([] : List GScored))
def tumbref2_GivenOf_l1 (p_t : GTable) (p_l : List GScored) (j1 : (List GGiven) → Option (List GGiven)) : List GScored → Nat → (List GGiven) → Option (List GGiven)
  | [], _, x1 => j1 x1
  | y1 :: ys1, i1, x1 => Join (fun (x2 : List GGiven) =>
  tumbref2_GivenOf_l1 p_t p_l j1 ys1 (i1 + 1) x2) (fun j2 =>
  Join (fun (x3 : List GGiven) =>
  j2 x3) (fun j3 =>
  if (tumbref2_counted y1) then
  Chk (decide (y1.Race.size + k__20.size < 1073741824)) (
  Chk (decide ((y1.Race ++ k__20).size + y1.Who.size < 1073741824)) (
  Option.bind (tumbref2_shareOf p_t p_l y1) (fun r1 =>
  Chk (room x1.length) (
  j3 (x1 ++ [(GGiven.mk ((y1.Race ++ k__20) ++ y1.Who) r1)])))))
  else
  j3 x1))
def tumbref2_GivenOf (p_t : GTable) (p_l : List GScored) : Option (List GGiven) :=
  Join (fun (x1 : List GGiven) =>
  some x1) (fun j1 =>
  tumbref2_GivenOf_l1 p_t p_l j1 p_l 0 ([] : List GGiven))
def slices_Equal_Given_l1 (p_s2 : List GGiven) (j1 : Option Bool) : List GGiven → Nat → Option Bool
  | [], _ => j1
  | y1 :: ys1, i1 => Chk (inB (i1 : Int) p_s2.length) (
  if !decide (y1 = (GGiven.mk ((nth p_s2 (i1 : Int)).Key) ((nth p_s2 (i1 : Int)).Points))) then
  some false
  else
  slices_Equal_Given_l1 p_s2 j1 ys1 (i1 + 1))
def slices_Equal_Given (p_s1 : List GGiven) (p_s2 : List GGiven) : Option Bool :=
  if !decide ((p_s1.length : Int) = (p_s2.length : Int)) then
  some false
  else
  Join (some true) (fun j1 =>
  slices_Equal_Given_l1 p_s2 j1 p_s1 0)
def sortStrs (l : List ByteArray) : List ByteArray := ((l.map fun b => b.data.toList).mergeSort fun x y => decide (x ≤ y)).map fun b => ⟨b.toArray⟩
def slices_Sort_string (p_x : List ByteArray) : Option (List ByteArray) := Chk (decide (p_x.length < 4611686018427387904)) (some (sortStrs p_x))
def slices_Compact_string_l2 (p_s : List ByteArray) (x1 : Int) (j2 : (List ByteArray) → Int → Option (List ByteArray)) : Nat → (List ByteArray) → Int → Int → Option (List ByteArray)
  | 0, _, _, _ => none
  | m2 + 1, x2, x3, x4 => if decide (x4 < (((p_s.length : Int).toNat - x1.toNat : Nat) : Int)) then
  Join (fun (x5 : List ByteArray) (x6 : Int) =>
  slices_Compact_string_l2 p_s x1 j2 m2 x5 x6 (W (x4 + 1))) (fun j3 =>
  Chk (inB x4 ((p_s.length : Int).toNat - x1.toNat)) (
  Chk (inB (W (x4 - 1)) ((p_s.length : Int).toNat - x1.toNat)) (
  Join (fun (x7 : List ByteArray) (x8 : Int) =>
  j3 x7 x8) (fun j4 =>
  if !decide ((nth (cut x2 x1 (p_s.length : Int)) x4) = (nth (cut x2 x1 (p_s.length : Int)) (W (x4 - 1)))) then
  Chk (inB x4 ((p_s.length : Int).toNat - x1.toNat)) (
  Chk (inB x3 x2.length) (
  j4 (x2.set x3.toNat (nth (cut x2 x1 (p_s.length : Int)) x4)) (W (x3 + 1))))
  else
  j4 x2 x3))))
  else
  j2 x2 x3
def slices_Compact_string_l1 (p_s : List ByteArray) (j1 : Option (List ByteArray)) : Nat → Int → Option (List ByteArray)
  | 0, _ => none
  | m1 + 1, x1 => if decide (x1 < (p_s.length : Int)) then
  Chk (inB x1 p_s.length) (
  Chk (inB (W (x1 - 1)) p_s.length) (
  if decide ((nth p_s x1) = (nth p_s (W (x1 - 1)))) then
  Chk (cutB x1 (p_s.length : Int) p_s.length) (
  Join (fun (x2 : List ByteArray) (x3 : Int) =>
  Chk (cutB x3 (x2.length : Int) x2.length) (
  Chk (cutB 0 x3 (clr x2 x3 (x2.length : Int) k_empty).length) (
  some (cut (clr x2 x3 (x2.length : Int) k_empty) (0 : Int) x3)))) (fun j2 =>
  slices_Compact_string_l2 p_s x1 j2 (((((p_s.length : Int).toNat - x1.toNat : Nat) : Int) - 1).toNat + 2) p_s x1 1))
  else
  slices_Compact_string_l1 p_s j1 m1 (W (x1 + 1))))
  else
  j1
def slices_Compact_string (p_s : List ByteArray) : Option (List ByteArray) :=
  if decide ((p_s.length : Int) < 2) then
  some p_s
  else
  Join (some p_s) (fun j1 =>
  slices_Compact_string_l1 p_s j1 (((p_s.length : Int) - 1).toNat + 2) 1)
def tumbref2_ClubSums_c1_c1 (p_s : GScored) (p_a1 : ByteArray) : Bool :=
  decide (p_s.Club = p_a1)
def tumbref2_plus (p_a : GFraction) (p_b : GFraction) : Option GFraction :=
  Option.bind (tumbref2_Lowest (W ((W (p_a.Num * p_b.Den)) + (W (p_b.Num * p_a.Den)))) (W (p_a.Den * p_b.Den))) (fun r1 =>
  some r1)
def tumbref2_sumOf_tumbref2_ClubSums_c1_c1_l1 (p_is_0 : ByteArray) (p_t : GTable) (p_l : List GScored) (j1 : Int → Int → Option GFraction) : List GScored → Nat → Int → Int → Option GFraction
  | [], _, x1, x2 => j1 x1 x2
  | y1 :: ys1, i1, x1, x2 => Join (fun (x3 : Int) (x4 : Int) =>
  tumbref2_sumOf_tumbref2_ClubSums_c1_c1_l1 p_is_0 p_t p_l j1 ys1 (i1 + 1) x3 x4) (fun j2 =>
  Join (fun (x5 : Int) (x6 : Int) =>
  j2 x5 x6) (fun j3 =>
  if ((tumbref2_counted y1) && (tumbref2_ClubSums_c1_c1 y1 p_is_0)) then
  Option.bind (tumbref2_shareOf p_t p_l y1) (fun r1 =>
  Option.bind (tumbref2_plus (GFraction.mk x1 x2) r1) (fun r2 =>
  j3 r2.Num r2.Den))
  else
  j3 x1 x2))
def tumbref2_sumOf_tumbref2_ClubSums_c1_c1 (p_t : GTable) (p_l : List GScored) (p_is_0 : ByteArray) : Option GFraction :=
  Join (fun (x1 : Int) (x2 : Int) =>
  some (GFraction.mk x1 x2)) (fun j1 =>
  tumbref2_sumOf_tumbref2_ClubSums_c1_c1_l1 p_is_0 p_t p_l j1 p_l 0 0 1)
def tumbref2_ClubSums_c1 (p_name : ByteArray) (p_a1_Points : List Int) (p_a1_Relay : Int) (p_a1_Most : Int) (p_a2 : List GScored) : Option GFraction :=
  Option.bind (tumbref2_sumOf_tumbref2_ClubSums_c1_c1 (GTable.mk p_a1_Points p_a1_Relay p_a1_Most) p_a2 p_name) (fun r1 =>
  some r1)
def tumbref2_sums_tumbref2_ClubSums_c1_l1 (p_of_0_Points : List Int) (p_of_0_Relay : Int) (p_of_0_Most : Int) (p_of_1 : List GScored) (j1 : (List GGiven) → Option (List GGiven)) : List ByteArray → Nat → (List GGiven) → Option (List GGiven)
  | [], _, x1 => j1 x1
  | y1 :: ys1, i1, x1 => Option.bind (tumbref2_ClubSums_c1 y1 p_of_0_Points p_of_0_Relay p_of_0_Most p_of_1) (fun r3 =>
  Chk (room x1.length) (
  tumbref2_sums_tumbref2_ClubSums_c1_l1 p_of_0_Points p_of_0_Relay p_of_0_Most p_of_1 j1 ys1 (i1 + 1) (x1 ++ [(GGiven.mk y1 r3)])))
def tumbref2_sums_tumbref2_ClubSums_c1 (p_names : List ByteArray) (p_of_0_Points : List Int) (p_of_0_Relay : Int) (p_of_0_Most : Int) (p_of_1 : List GScored) : Option (List GGiven) :=
  Option.bind (slices_Sort_string p_names) (fun r1 =>
  Option.bind (slices_Compact_string r1) (fun r2 =>
  Join (fun (x1 : List GGiven) =>
  some x1) (fun j1 =>
  tumbref2_sums_tumbref2_ClubSums_c1_l1 p_of_0_Points p_of_0_Relay p_of_0_Most p_of_1 j1 r2 0 ([] : List GGiven))))
def tumbref2_ClubSums_l1 (j1 : (List ByteArray) → Option (List GGiven)) : List GScored → Nat → (List ByteArray) → Option (List GGiven)
  | [], _, x1 => j1 x1
  | y1 :: ys1, i1, x1 => Join (fun (x2 : List ByteArray) =>
  tumbref2_ClubSums_l1 j1 ys1 (i1 + 1) x2) (fun j2 =>
  Join (fun (x3 : List ByteArray) =>
  j2 x3) (fun j3 =>
  if !decide (y1.Club = k_empty) then
  Chk (room x1.length) (
  j3 (x1 ++ [y1.Club]))
  else
  j3 x1))
def tumbref2_ClubSums (p_t : GTable) (p_l : List GScored) : Option (List GGiven) :=
  Join (fun (x1 : List ByteArray) =>
  Option.bind (tumbref2_sums_tumbref2_ClubSums_c1 x1 p_t.Points p_t.Relay p_t.Most p_l) (fun r1 =>
  some r1)) (fun j1 =>
  tumbref2_ClubSums_l1 j1 p_l 0 ([] : List ByteArray))
def tumbref2_SwimmerSums_c1_c1 (p_s : GScored) (p_a1 : ByteArray) : Bool :=
  ((decide (p_s.Who = p_a1)) && (!p_s.Relay))
def tumbref2_sumOf_tumbref2_SwimmerSums_c1_c1_l1 (p_is_0 : ByteArray) (p_t : GTable) (p_l : List GScored) (j1 : Int → Int → Option GFraction) : List GScored → Nat → Int → Int → Option GFraction
  | [], _, x1, x2 => j1 x1 x2
  | y1 :: ys1, i1, x1, x2 => Join (fun (x3 : Int) (x4 : Int) =>
  tumbref2_sumOf_tumbref2_SwimmerSums_c1_c1_l1 p_is_0 p_t p_l j1 ys1 (i1 + 1) x3 x4) (fun j2 =>
  Join (fun (x5 : Int) (x6 : Int) =>
  j2 x5 x6) (fun j3 =>
  if ((tumbref2_counted y1) && (tumbref2_SwimmerSums_c1_c1 y1 p_is_0)) then
  Option.bind (tumbref2_shareOf p_t p_l y1) (fun r1 =>
  Option.bind (tumbref2_plus (GFraction.mk x1 x2) r1) (fun r2 =>
  j3 r2.Num r2.Den))
  else
  j3 x1 x2))
def tumbref2_sumOf_tumbref2_SwimmerSums_c1_c1 (p_t : GTable) (p_l : List GScored) (p_is_0 : ByteArray) : Option GFraction :=
  Join (fun (x1 : Int) (x2 : Int) =>
  some (GFraction.mk x1 x2)) (fun j1 =>
  tumbref2_sumOf_tumbref2_SwimmerSums_c1_c1_l1 p_is_0 p_t p_l j1 p_l 0 0 1)
def tumbref2_SwimmerSums_c1 (p_name : ByteArray) (p_a1_Points : List Int) (p_a1_Relay : Int) (p_a1_Most : Int) (p_a2 : List GScored) : Option GFraction :=
  Option.bind (tumbref2_sumOf_tumbref2_SwimmerSums_c1_c1 (GTable.mk p_a1_Points p_a1_Relay p_a1_Most) p_a2 p_name) (fun r1 =>
  some r1)
def tumbref2_sums_tumbref2_SwimmerSums_c1_l1 (p_of_0_Points : List Int) (p_of_0_Relay : Int) (p_of_0_Most : Int) (p_of_1 : List GScored) (j1 : (List GGiven) → Option (List GGiven)) : List ByteArray → Nat → (List GGiven) → Option (List GGiven)
  | [], _, x1 => j1 x1
  | y1 :: ys1, i1, x1 => Option.bind (tumbref2_SwimmerSums_c1 y1 p_of_0_Points p_of_0_Relay p_of_0_Most p_of_1) (fun r3 =>
  Chk (room x1.length) (
  tumbref2_sums_tumbref2_SwimmerSums_c1_l1 p_of_0_Points p_of_0_Relay p_of_0_Most p_of_1 j1 ys1 (i1 + 1) (x1 ++ [(GGiven.mk y1 r3)])))
def tumbref2_sums_tumbref2_SwimmerSums_c1 (p_names : List ByteArray) (p_of_0_Points : List Int) (p_of_0_Relay : Int) (p_of_0_Most : Int) (p_of_1 : List GScored) : Option (List GGiven) :=
  Option.bind (slices_Sort_string p_names) (fun r1 =>
  Option.bind (slices_Compact_string r1) (fun r2 =>
  Join (fun (x1 : List GGiven) =>
  some x1) (fun j1 =>
  tumbref2_sums_tumbref2_SwimmerSums_c1_l1 p_of_0_Points p_of_0_Relay p_of_0_Most p_of_1 j1 r2 0 ([] : List GGiven))))
def tumbref2_SwimmerSums_l1 (j1 : (List ByteArray) → Option (List GGiven)) : List GScored → Nat → (List ByteArray) → Option (List GGiven)
  | [], _, x1 => j1 x1
  | y1 :: ys1, i1, x1 => Join (fun (x2 : List ByteArray) =>
  tumbref2_SwimmerSums_l1 j1 ys1 (i1 + 1) x2) (fun j2 =>
  Join (fun (x3 : List ByteArray) =>
  j2 x3) (fun j3 =>
  if ((tumbref2_counted y1) && (!y1.Relay)) then
  Chk (room x1.length) (
  j3 (x1 ++ [y1.Who]))
  else
  j3 x1))
def tumbref2_SwimmerSums (p_t : GTable) (p_l : List GScored) : Option (List GGiven) :=
  Join (fun (x1 : List ByteArray) =>
  Option.bind (tumbref2_sums_tumbref2_SwimmerSums_c1 x1 p_t.Points p_t.Relay p_t.Most p_l) (fun r1 =>
  some r1)) (fun j1 =>
  tumbref2_SwimmerSums_l1 j1 p_l 0 ([] : List ByteArray))
def tumbref2_AllPoints_c1 (p_a0 : GScored) : Bool :=
  true
def tumbref2_sumOf_tumbref2_AllPoints_c1_l1 (p_t : GTable) (p_l : List GScored) (j1 : Int → Int → Option GFraction) : List GScored → Nat → Int → Int → Option GFraction
  | [], _, x1, x2 => j1 x1 x2
  | y1 :: ys1, i1, x1, x2 => Join (fun (x3 : Int) (x4 : Int) =>
  tumbref2_sumOf_tumbref2_AllPoints_c1_l1 p_t p_l j1 ys1 (i1 + 1) x3 x4) (fun j2 =>
  Join (fun (x5 : Int) (x6 : Int) =>
  j2 x5 x6) (fun j3 =>
  if ((tumbref2_counted y1) && (tumbref2_AllPoints_c1 y1)) then
  Option.bind (tumbref2_shareOf p_t p_l y1) (fun r1 =>
  Option.bind (tumbref2_plus (GFraction.mk x1 x2) r1) (fun r2 =>
  j3 r2.Num r2.Den))
  else
  j3 x1 x2))
def tumbref2_sumOf_tumbref2_AllPoints_c1 (p_t : GTable) (p_l : List GScored) : Option GFraction :=
  Join (fun (x1 : Int) (x2 : Int) =>
  some (GFraction.mk x1 x2)) (fun j1 =>
  tumbref2_sumOf_tumbref2_AllPoints_c1_l1 p_t p_l j1 p_l 0 0 1)
def tumbref2_AllPoints (p_t : GTable) (p_l : List GScored) : Option GFraction :=
  Option.bind (tumbref2_sumOf_tumbref2_AllPoints_c1 p_t p_l) (fun r1 =>
  some r1)
def tumblaw2_RanksBringPoints (p_l : List Int) : Option Bool :=
  Option.bind (Stream_Table p_l 0) (fun r1 =>
  Option.bind (Stream_Scored p_l r1.2) (fun r2 =>
  Option.bind (points_Given r1.1 r2.1) (fun r3 =>
  Option.bind (points_Clubs r1.1 r2.1) (fun r4 =>
  Option.bind (points_Swimmers r1.1 r2.1) (fun r5 =>
  Option.bind (points_All r1.1 r2.1) (fun r6 =>
  Option.bind (tumbref2_TableFault r1.1) (fun r7 =>
  Option.bind (tumbref2_ScoredFault r2.1) (fun r8 =>
  Join (fun (x1 : Bool) =>
  if x1 then
  some false
  else
  if !decide ((tumblaw2_errs [r7, r8]) = 0) then
  Join (fun (c1 : Bool) =>
  some c1) (fun j2 =>
  if ((decide ((W ((W ((r3.1.length : Int) + (r4.1.length : Int))) + (r5.1.length : Int))) = 0)) && (decide (r6.1 = (GFraction.mk 0 0)))) then Option.bind (tumblaw2_pointed) (fun r13 =>
  j2 (((decide ((W ((W ((r3.1.length : Int) + (r4.1.length : Int))) + (r5.1.length : Int))) = 0)) && (decide (r6.1 = (GFraction.mk 0 0)))) && r13)) else j2 (((decide ((W ((W ((r3.1.length : Int) + (r4.1.length : Int))) + (r5.1.length : Int))) = 0)) && (decide (r6.1 = (GFraction.mk 0 0)))) && true))
  else
  Join (fun (x2 : Bool) =>
  some x2) (fun j3 =>
  Option.bind (tumbref2_GivenOf r1.1 r2.1) (fun r14 =>
  Option.bind (slices_Equal_Given r3.1 r14) (fun r15 =>
  if r15 then
  Option.bind (tumbref2_ClubSums r1.1 r2.1) (fun r16 =>
  Option.bind (slices_Equal_Given r4.1 r16) (fun r17 =>
  if r17 then
  Option.bind (tumbref2_SwimmerSums r1.1 r2.1) (fun r18 =>
  Option.bind (slices_Equal_Given r5.1 r18) (fun r19 =>
  if r19 then
  Option.bind (tumbref2_AllPoints r1.1 r2.1) (fun r20 =>
  if decide (r6.1 = r20) then
  Option.bind (tumblaw2_pointed) (fun r21 =>
  j3 r21)
  else
  j3 false)
  else
  if false then
  Option.bind (tumblaw2_pointed) (fun r22 =>
  j3 r22)
  else
  j3 false))
  else
  if false then
  Option.bind (tumbref2_AllPoints r1.1 r2.1) (fun r23 =>
  if decide (r6.1 = r23) then
  Option.bind (tumblaw2_pointed) (fun r24 =>
  j3 r24)
  else
  j3 false)
  else
  if false then
  Option.bind (tumblaw2_pointed) (fun r25 =>
  j3 r25)
  else
  j3 false))
  else
  if false then
  Option.bind (tumbref2_SwimmerSums r1.1 r2.1) (fun r26 =>
  Option.bind (slices_Equal_Given r5.1 r26) (fun r27 =>
  if r27 then
  Option.bind (tumbref2_AllPoints r1.1 r2.1) (fun r28 =>
  if decide (r6.1 = r28) then
  Option.bind (tumblaw2_pointed) (fun r29 =>
  j3 r29)
  else
  j3 false)
  else
  if false then
  Option.bind (tumblaw2_pointed) (fun r30 =>
  j3 r30)
  else
  j3 false))
  else
  if false then
  Option.bind (tumbref2_AllPoints r1.1 r2.1) (fun r31 =>
  if decide (r6.1 = r31) then
  Option.bind (tumblaw2_pointed) (fun r32 =>
  j3 r32)
  else
  j3 false)
  else
  if false then
  Option.bind (tumblaw2_pointed) (fun r33 =>
  j3 r33)
  else
  j3 false)))) (fun j1 =>
  Option.bind (points_CheckTable r1.1) (fun r9 =>
  Option.bind (tumbref2_TableFault r1.1) (fun r10 =>
  if !decide (r9 = r10) then
  j1 ((((true || (!decide (r3.2 = (tumblaw2_errs [r7, r8])))) || (!decide (r4.2 = (tumblaw2_errs [r7, r8])))) || (!decide (r5.2 = (tumblaw2_errs [r7, r8])))) || (!decide (r6.2 = (tumblaw2_errs [r7, r8]))))
  else
  Option.bind (points_CheckScored r2.1) (fun r11 =>
  Option.bind (tumbref2_ScoredFault r2.1) (fun r12 =>
  j1 (((((!decide (r11 = r12)) || (!decide (r3.2 = (tumblaw2_errs [r7, r8])))) || (!decide (r4.2 = (tumblaw2_errs [r7, r8])))) || (!decide (r5.2 = (tumblaw2_errs [r7, r8])))) || (!decide (r6.2 = (tumblaw2_errs [r7, r8])))))))))))))))))
theorem twin_eqs : True := by
  have h := @Stream_RightTable_l1.eq_def; clear h; have h := @Stream_RightTable_l1.eq_1; clear h; have h := @Stream_RightTable_l1.eq_2; clear h
  have h := @slices_insertionSortCmpFunc_Scored_tumbref2_ScoredOrder_l2.eq_def; clear h; have h := @slices_insertionSortCmpFunc_Scored_tumbref2_ScoredOrder_l2.eq_1; clear h; have h := @slices_insertionSortCmpFunc_Scored_tumbref2_ScoredOrder_l2.eq_2; clear h
  have h := @slices_insertionSortCmpFunc_Scored_tumbref2_ScoredOrder_l1.eq_def; clear h; have h := @slices_insertionSortCmpFunc_Scored_tumbref2_ScoredOrder_l1.eq_1; clear h; have h := @slices_insertionSortCmpFunc_Scored_tumbref2_ScoredOrder_l1.eq_2; clear h
  have h := @slices_pdqsortCmpFunc_Scored_tumbref2_ScoredOrder_l1.eq_def; clear h; have h := @slices_pdqsortCmpFunc_Scored_tumbref2_ScoredOrder_l1.eq_1; clear h; have h := @slices_pdqsortCmpFunc_Scored_tumbref2_ScoredOrder_l1.eq_2; clear h
  have h := @Stream_RightScored_l2.eq_def; clear h; have h := @Stream_RightScored_l2.eq_1; clear h; have h := @Stream_RightScored_l2.eq_2; clear h
  have h := @Stream_RightScored_l4.eq_def; clear h; have h := @Stream_RightScored_l4.eq_1; clear h; have h := @Stream_RightScored_l4.eq_2; clear h
  have h := @Stream_RightScored_l3.eq_def; clear h; have h := @Stream_RightScored_l3.eq_1; clear h; have h := @Stream_RightScored_l3.eq_2; clear h
  have h := @Stream_RightScored_l5.eq_def; clear h; have h := @Stream_RightScored_l5.eq_1; clear h; have h := @Stream_RightScored_l5.eq_2; clear h
  have h := @Stream_RightScored_l1.eq_def; clear h; have h := @Stream_RightScored_l1.eq_1; clear h; have h := @Stream_RightScored_l1.eq_2; clear h
  have h := @Stream_Scored_l1.eq_def; clear h; have h := @Stream_Scored_l1.eq_1; clear h; have h := @Stream_Scored_l1.eq_2; clear h
  have h := @points_CheckTable_l1.eq_def; clear h; have h := @points_CheckTable_l1.eq_1; clear h; have h := @points_CheckTable_l1.eq_2; clear h
  have h := @cmp_Or_int_l1.eq_def; clear h; have h := @cmp_Or_int_l1.eq_1; clear h; have h := @cmp_Or_int_l1.eq_2; clear h
  have h := @points_races_l2.eq_def; clear h; have h := @points_races_l2.eq_1; clear h; have h := @points_races_l2.eq_2; clear h
  have h := @points_races_l1.eq_def; clear h; have h := @points_races_l1.eq_1; clear h; have h := @points_races_l1.eq_2; clear h
  have h := @slices_IndexFunc_Scored_points_checkAll_c1_l1.eq_def; clear h; have h := @slices_IndexFunc_Scored_points_checkAll_c1_l1.eq_1; clear h; have h := @slices_IndexFunc_Scored_points_checkAll_c1_l1.eq_2; clear h
  have h := @points_checkAll_l1.eq_def; clear h; have h := @points_checkAll_l1.eq_1; clear h; have h := @points_checkAll_l1.eq_2; clear h
  have h := @points_checkAll_l2.eq_def; clear h; have h := @points_checkAll_l2.eq_1; clear h; have h := @points_checkAll_l2.eq_2; clear h
  have h := @points_checkAll_l4.eq_def; clear h; have h := @points_checkAll_l4.eq_1; clear h; have h := @points_checkAll_l4.eq_2; clear h
  have h := @points_checkAll_l3.eq_def; clear h; have h := @points_checkAll_l3.eq_1; clear h; have h := @points_checkAll_l3.eq_2; clear h
  have h := @points_checkAll_l6.eq_def; clear h; have h := @points_checkAll_l6.eq_1; clear h; have h := @points_checkAll_l6.eq_2; clear h
  have h := @points_checkAll_l5.eq_def; clear h; have h := @points_checkAll_l5.eq_1; clear h; have h := @points_checkAll_l5.eq_2; clear h
  have h := @points_CheckScored_l1.eq_def; clear h; have h := @points_CheckScored_l1.eq_1; clear h; have h := @points_CheckScored_l1.eq_2; clear h
  have h := @words_Fraction_l1.eq_def; clear h; have h := @words_Fraction_l1.eq_1; clear h; have h := @words_Fraction_l1.eq_2; clear h
  have h := @points_race_l1.eq_def; clear h; have h := @points_race_l1.eq_1; clear h; have h := @points_race_l1.eq_2; clear h
  have h := @points_race_l3.eq_def; clear h; have h := @points_race_l3.eq_1; clear h; have h := @points_race_l3.eq_2; clear h
  have h := @points_race_l4.eq_def; clear h; have h := @points_race_l4.eq_1; clear h; have h := @points_race_l4.eq_2; clear h
  have h := @points_race_l2.eq_def; clear h; have h := @points_race_l2.eq_1; clear h; have h := @points_race_l2.eq_2; clear h
  have h := @points_rows_l1.eq_def; clear h; have h := @points_rows_l1.eq_1; clear h; have h := @points_rows_l1.eq_2; clear h
  have h := @points_Given_l1.eq_def; clear h; have h := @points_Given_l1.eq_1; clear h; have h := @points_Given_l1.eq_2; clear h
  have h := @points_clubs_l1.eq_def; clear h; have h := @points_clubs_l1.eq_1; clear h; have h := @points_clubs_l1.eq_2; clear h
  have h := @points_clubs_l2.eq_def; clear h; have h := @points_clubs_l2.eq_1; clear h; have h := @points_clubs_l2.eq_2; clear h
  have h := @slices_insertionSortCmpFunc_Given_points_sums_c1_l2.eq_def; clear h; have h := @slices_insertionSortCmpFunc_Given_points_sums_c1_l2.eq_1; clear h; have h := @slices_insertionSortCmpFunc_Given_points_sums_c1_l2.eq_2; clear h
  have h := @slices_insertionSortCmpFunc_Given_points_sums_c1_l1.eq_def; clear h; have h := @slices_insertionSortCmpFunc_Given_points_sums_c1_l1.eq_1; clear h; have h := @slices_insertionSortCmpFunc_Given_points_sums_c1_l1.eq_2; clear h
  have h := @slices_pdqsortCmpFunc_Given_points_sums_c1_l1.eq_def; clear h; have h := @slices_pdqsortCmpFunc_Given_points_sums_c1_l1.eq_1; clear h; have h := @slices_pdqsortCmpFunc_Given_points_sums_c1_l1.eq_2; clear h
  have h := @points_sums_l1.eq_def; clear h; have h := @points_sums_l1.eq_1; clear h; have h := @points_sums_l1.eq_2; clear h
  have h := @points_Swimmers_l1.eq_def; clear h; have h := @points_Swimmers_l1.eq_1; clear h; have h := @points_Swimmers_l1.eq_2; clear h
  have h := @points_All_l1.eq_def; clear h; have h := @points_All_l1.eq_1; clear h; have h := @points_All_l1.eq_2; clear h
  have h := @tumbref2_TableFault_l1.eq_def; clear h; have h := @tumbref2_TableFault_l1.eq_1; clear h; have h := @tumbref2_TableFault_l1.eq_2; clear h
  have h := @tumbref2_only_l1.eq_def; clear h; have h := @tumbref2_only_l1.eq_1; clear h; have h := @tumbref2_only_l1.eq_2; clear h
  have h := @tumbref2_ScoredFault_l1.eq_def; clear h; have h := @tumbref2_ScoredFault_l1.eq_1; clear h; have h := @tumbref2_ScoredFault_l1.eq_2; clear h
  have h := @tumbref2_ScoredFault_l3.eq_def; clear h; have h := @tumbref2_ScoredFault_l3.eq_1; clear h; have h := @tumbref2_ScoredFault_l3.eq_2; clear h
  have h := @tumbref2_ScoredFault_l2.eq_def; clear h; have h := @tumbref2_ScoredFault_l2.eq_1; clear h; have h := @tumbref2_ScoredFault_l2.eq_2; clear h
  have h := @tumbref2_ScoredFault_l4.eq_def; clear h; have h := @tumbref2_ScoredFault_l4.eq_1; clear h; have h := @tumbref2_ScoredFault_l4.eq_2; clear h
  have h := @tumblaw2_errs_l1.eq_def; clear h; have h := @tumblaw2_errs_l1.eq_1; clear h; have h := @tumblaw2_errs_l1.eq_2; clear h
  have h := @points_CheckBase_l1.eq_def; clear h; have h := @points_CheckBase_l1.eq_1; clear h; have h := @points_CheckBase_l1.eq_2; clear h
  have h := @points_baseOf_l1.eq_def; clear h; have h := @points_baseOf_l1.eq_1; clear h; have h := @points_baseOf_l1.eq_2; clear h
  have h := @bits_Div64_l1.eq_def; clear h; have h := @bits_Div64_l1.eq_1; clear h; have h := @bits_Div64_l1.eq_2; clear h
  have h := @bits_Div64_l2.eq_def; clear h; have h := @bits_Div64_l2.eq_1; clear h; have h := @bits_Div64_l2.eq_2; clear h
  have h := @slices_Index_Scored_l1.eq_def; clear h; have h := @slices_Index_Scored_l1.eq_1; clear h; have h := @slices_Index_Scored_l1.eq_2; clear h
  have h := @tumbref2_Lowest_l1.eq_def; clear h; have h := @tumbref2_Lowest_l1.eq_1; clear h; have h := @tumbref2_Lowest_l1.eq_2; clear h
  have h := @tumbref2_shareOf_l1.eq_def; clear h; have h := @tumbref2_shareOf_l1.eq_1; clear h; have h := @tumbref2_shareOf_l1.eq_2; clear h
  have h := @tumbref2_shareOf_l2.eq_def; clear h; have h := @tumbref2_shareOf_l2.eq_1; clear h; have h := @tumbref2_shareOf_l2.eq_2; clear h
  have h := @tumbref2_GivenOf_l1.eq_def; clear h; have h := @tumbref2_GivenOf_l1.eq_1; clear h; have h := @tumbref2_GivenOf_l1.eq_2; clear h
  have h := @slices_Equal_Given_l1.eq_def; clear h; have h := @slices_Equal_Given_l1.eq_1; clear h; have h := @slices_Equal_Given_l1.eq_2; clear h
  have h := @slices_Compact_string_l2.eq_def; clear h; have h := @slices_Compact_string_l2.eq_1; clear h; have h := @slices_Compact_string_l2.eq_2; clear h
  have h := @slices_Compact_string_l1.eq_def; clear h; have h := @slices_Compact_string_l1.eq_1; clear h; have h := @slices_Compact_string_l1.eq_2; clear h
  have h := @tumbref2_sumOf_tumbref2_ClubSums_c1_c1_l1.eq_def; clear h; have h := @tumbref2_sumOf_tumbref2_ClubSums_c1_c1_l1.eq_1; clear h; have h := @tumbref2_sumOf_tumbref2_ClubSums_c1_c1_l1.eq_2; clear h
  have h := @tumbref2_sums_tumbref2_ClubSums_c1_l1.eq_def; clear h; have h := @tumbref2_sums_tumbref2_ClubSums_c1_l1.eq_1; clear h; have h := @tumbref2_sums_tumbref2_ClubSums_c1_l1.eq_2; clear h
  have h := @tumbref2_ClubSums_l1.eq_def; clear h; have h := @tumbref2_ClubSums_l1.eq_1; clear h; have h := @tumbref2_ClubSums_l1.eq_2; clear h
  have h := @tumbref2_sumOf_tumbref2_SwimmerSums_c1_c1_l1.eq_def; clear h; have h := @tumbref2_sumOf_tumbref2_SwimmerSums_c1_c1_l1.eq_1; clear h; have h := @tumbref2_sumOf_tumbref2_SwimmerSums_c1_c1_l1.eq_2; clear h
  have h := @tumbref2_sums_tumbref2_SwimmerSums_c1_l1.eq_def; clear h; have h := @tumbref2_sums_tumbref2_SwimmerSums_c1_l1.eq_1; clear h; have h := @tumbref2_sums_tumbref2_SwimmerSums_c1_l1.eq_2; clear h
  have h := @tumbref2_SwimmerSums_l1.eq_def; clear h; have h := @tumbref2_SwimmerSums_l1.eq_1; clear h; have h := @tumbref2_SwimmerSums_l1.eq_2; clear h
  have h := @tumbref2_sumOf_tumbref2_AllPoints_c1_l1.eq_def; clear h; have h := @tumbref2_sumOf_tumbref2_AllPoints_c1_l1.eq_1; clear h; have h := @tumbref2_sumOf_tumbref2_AllPoints_c1_l1.eq_2; clear h
  trivial
end
end Go.Proofs.YtmdjmbbmlohnlaaGreatDoor
